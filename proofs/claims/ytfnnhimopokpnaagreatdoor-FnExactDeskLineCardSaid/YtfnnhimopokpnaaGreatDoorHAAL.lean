/- Lemmas for this seat; no condition. -/
import Derived.Test.YtfnnhimopokpnaaGreatDoorHAAJ
import Derived.Test.YtfnnhimopokpnaaGreatDoorHAAK
namespace Go.Proofs.YtfnnhimopokpnaaGreatDoor
open Go.RowKit
set_option maxRecDepth 100000
set_option maxHeartbeats 0
set_option linter.unusedVariables false
theorem cloneM_any (lo hi:Nat) (v:Value) (xs:List Mv) (w:World) (hx:SlM lo hi w v xs) (hm:xs.length≤1048576) :
  Calls Tryz.prog 77 #[v] w (RetV fun v' w'=>Below w.heap.size w w'∧OwnM w.heap.size w'.heap.size 67 w' v' xs):=by
 obtain ⟨a,cap,rfl,hcap,hcm,hl,hnone,hc⟩:=hx
 cases a with
 | none=>
  obtain rfl:=hnone rfl
  have hx0:xs=[]:=List.eq_nil_of_length_eq_zero (by omega)
  subst hx0
  have heq:∀ w,(binOp .eql 29 (.slice none 0 0) (.slice none 0 0)).run Tryz.prog w=.ok (.bool true) w:=fun w=>Lib.run_eql_slice_nil_nil w 0 0 Tryz.underlying29
  go_enter Tryz.func77,Tryz.ntmps77
  go_wp2
  go_ret
  exact RetV.mk _ rfl ⟨B_ _ _,Own.nil _ _ _ _ _⟩
 | some ad=>
  have HX:Hid (Sl 3 lo hi w (.slice (some ad) xs.length cap) xs.length (mvs xs)):=H_ ⟨some ad,cap,rfl,hcap,hcm,hl,hnone,hc⟩
  have HOL:Hid (Own 3 w.heap.size (w.heap.size+1) 67 (w.alloc (.cells #[] 67)) (.slice (some ⟨w.heap.size,0,none⟩) 0 0) 0 []):=H_ (Own.lit 3 67 w [] 0 (by omega) rfl)
  have HA:=H_ ((B_ w.heap.size w).alloc (le_ _) (.cells #[] 67))
  have HXA:Hid (Sl 3 lo hi (w.alloc (.cells #[] 67)) (.slice (some ad) xs.length cap) xs.length (mvs xs)):=by
   refine H_ ⟨some ad,cap,rfl,hcap,hcm,hl,hnone,fun i hi'=>?_⟩
   obtain ⟨b,off,e,e1,e2,e3,e4⟩:=hc i hi'
   exact ⟨b,off,e,e1,e2,by simp;omega,by rw [World.cell?_alloc_lt _ _ ⟨b,off+i,none⟩ e3];exact e4⟩
  have heq:∀ w,(binOp .eql 29 (.slice (some ad) xs.length cap) (.slice none 0 0)).run Tryz.prog w=.ok (.bool false) w:=fun w=>Lib.run_eql_slice_some_nil w ad xs.length cap Tryz.underlying29
  clear hl hnone hc
  go_enter Tryz.func77,Tryz.ntmps77
  go_wp2_with (at_builtin;go_loud (refine wpList_app_sl rfl _ _ 29 rfl 67 (.agg #[.int .i64 0,.bool false,.int .i64 0]) 3 24 Tryz.underlying29 info_mv rfl (by decide) (by decide) rfl HOL.out rfl HXA.out (mvs_one _) (by omega) (by simp) ?_))
  intro v2 w2 ho2 _ hout2 _
  have HO2:=H_ ho2
  have HB2:=H_ (Below.outside HA.out hout2 (le_ _) (by simp))
  obtain ⟨a2,c2,rfl,_⟩:=Own.open ho2
  clear ho2 hout2
  go_wp2
  go_ret
  exact RetV.mk _ rfl ⟨HB2.out,HO2.out⟩
theorem desk_clone (lo hi:Nat) (a b c d:Value) (D:Dsk) (w:World) (hx:DeskAt lo hi w a b c d D) (hh:hi≤w.heap.size) (hm:D.size≤1048576) :
  Calls Tryz.prog 37 #[aggD a b c d] w (DeskRet w D):=by
 unfold Dsk.size at hm
 obtain ⟨w0,hw0⟩:∃ w0,w0=(w.alloc (.cells #[a,b,c,d] 31)).alloc (.cells #[.slice none 0 0,.slice none 0 0,.slice none 0 0,.slice none 0 0] 31):=⟨_,rfl⟩
 have hb0:Below w.heap.size w w0:=by rw [hw0];exact ((B_ _ _).alloc (le_ _) _).alloc (by simp) _
 have hs0:w0.heap.size=w.heap.size+2:=by rw [hw0];simp
 have K1:Hid (Blk w.heap.size (.cells #[a,b,c,d] 31) w0):=by
  rw [hw0]
  exact H_ ((Blk.new w _).below ((B_ (w.alloc _).heap.size _).alloc (le_ _) _) (by simp))
 have K2:Hid (Blk (w.heap.size+1) (.cells #[.slice none 0 0,.slice none 0 0,.slice none 0 0,.slice none 0 0] 31) w0):=by
  have h:=Blk.new (w.alloc (.cells #[a,b,c,d] 31)) (.cells #[.slice none 0 0,.slice none 0 0,.slice none 0 0,.slice none 0 0] 31)
  rw [alloc_size] at h
  rw [hw0];exact H_ h
 have hbd:Below w0.heap.size w0 w0.drew:=Below.drew (B_ _ _)
 have hdz:w0.drew.heap.size=w0.heap.size:=rfl
 have HX:=H_ ((hx.below hb0 hh).below hbd (by omega))
 have HB:=H_ (hb0.trans (hbd.mono (by omega)))
 have K1d:=H_ (K1.out.below hbd K1.out.lt)
 have K2d:=H_ (K2.out.below hbd K2.out.lt)
 have hS:w0.drew.cell? ⟨w.heap.size,0,none⟩=some a∧w0.drew.cell? ⟨w.heap.size,1,none⟩=some b∧w0.drew.cell? ⟨w.heap.size,2,none⟩=some c∧w0.drew.cell? ⟨w.heap.size,3,none⟩=some d:=⟨K1d.out.cell 0,K1d.out.cell 1,K1d.out.cell 2,K1d.out.cell 3⟩
 have HW0:=H_ hw0
 clear hx hb0 hw0 hbd
 go_enter Tryz.func37,Tryz.ntmps37
 go_wp2_with (rw [←HW0.out])
 go_region_held3 (fun w'=>w'.cell? ⟨w.heap.size,0,none⟩=some a∧w'.cell? ⟨w.heap.size,1,none⟩=some b∧w'.cell? ⟨w.heap.size,2,none⟩=some c∧w'.cell? ⟨w.heap.size,3,none⟩=some d) (first | assumption | go_keep) (first
  | (go_at_call_of 76 a;refine (cloneI_any _ _ a D.first _ HX.out.first (by omega)).mono ?_;rintro e1 w1 ⟨v1,rfl,hbx,ho⟩;obtain ⟨x1,y1,rfl,_⟩:=Own.open ho;(have hz1:=hbx.size);(have HX1:=H_ (HX.out.below hbx (by omega)));(have KA1:=H_ (K1d.out.below hbx K1d.out.lt));(have KB1:=H_ (K2d.out.below hbx K2d.out.lt));(have HB1:=H_ (HB.out.trans (hbx.mono HB.out.size)));(have O1_1:=H_ ho);(have hS1:w1.cell? ⟨w.heap.size,0,none⟩=some a∧w1.cell? ⟨w.heap.size,1,none⟩=some b∧w1.cell? ⟨w.heap.size,2,none⟩=some c∧w1.cell? ⟨w.heap.size,3,none⟩=some d:=⟨KA1.out.cell 0,KA1.out.cell 1,KA1.out.cell 2,KA1.out.cell 3⟩);clear hbx ho)
  | (go_at_call_of 76 b;refine (cloneI_any _ _ b D.goal _ HX1.out.goal (by omega)).mono ?_;rintro e2 w2 ⟨v2,rfl,hbx,ho⟩;obtain ⟨x2,y2,rfl,_⟩:=Own.open ho;(have hz2:=hbx.size);(have HX2:=H_ (HX1.out.below hbx (by omega)));(have KA2:=H_ (KA1.out.below hbx KA1.out.lt));(have KB2:=H_ (KB1.out.below hbx KB1.out.lt));(have HB2:=H_ (HB1.out.trans (hbx.mono HB1.out.size)));(have O1_2:=H_ (O1_1.out.below hbx (by omega)));(have O2_2:=H_ ho);(have hS2:w2.cell? ⟨w.heap.size,0,none⟩=some a∧w2.cell? ⟨w.heap.size,1,none⟩=some b∧w2.cell? ⟨w.heap.size,2,none⟩=some c∧w2.cell? ⟨w.heap.size,3,none⟩=some d:=⟨KA2.out.cell 0,KA2.out.cell 1,KA2.out.cell 2,KA2.out.cell 3⟩);clear hbx ho)
  | (go_at_call_of 77 c;refine (cloneM_any _ _ c D.made _ HX2.out.made (by omega)).mono ?_;rintro e3 w3 ⟨v3,rfl,hbx,ho⟩;obtain ⟨x3,y3,rfl,_⟩:=Own.open ho;(have hz3:=hbx.size);(have HX3:=H_ (HX2.out.below hbx (by omega)));(have KA3:=H_ (KA2.out.below hbx KA2.out.lt));(have KB3:=H_ (KB2.out.below hbx KB2.out.lt));(have HB3:=H_ (HB2.out.trans (hbx.mono HB2.out.size)));(have O1_3:=H_ (O1_2.out.below hbx (by omega)));(have O2_3:=H_ (O2_2.out.below hbx (by omega)));(have O3_3:=H_ ho);(have hS3:w3.cell? ⟨w.heap.size,0,none⟩=some a∧w3.cell? ⟨w.heap.size,1,none⟩=some b∧w3.cell? ⟨w.heap.size,2,none⟩=some c∧w3.cell? ⟨w.heap.size,3,none⟩=some d:=⟨KA3.out.cell 0,KA3.out.cell 1,KA3.out.cell 2,KA3.out.cell 3⟩);clear hbx ho)
  | (go_at_call_of 76 d;refine (cloneI_any _ _ d D.now _ HX3.out.now (by omega)).mono ?_;rintro e4 w4 ⟨v4,rfl,hbx,ho⟩;obtain ⟨x4,y4,rfl,_⟩:=Own.open ho;(have hz4:=hbx.size);(have HX4:=H_ (HX3.out.below hbx (by omega)));(have KA4:=H_ (KA3.out.below hbx KA3.out.lt));(have KB4:=H_ (KB3.out.below hbx KB3.out.lt));(have HB4:=H_ (HB3.out.trans (hbx.mono HB3.out.size)));(have O1_4:=H_ (O1_3.out.below hbx (by omega)));(have O2_4:=H_ (O2_3.out.below hbx (by omega)));(have O3_4:=H_ (O3_3.out.below hbx (by omega)));(have O4_4:=H_ ho);(have hS4:w4.cell? ⟨w.heap.size,0,none⟩=some a∧w4.cell? ⟨w.heap.size,1,none⟩=some b∧w4.cell? ⟨w.heap.size,2,none⟩=some c∧w4.cell? ⟨w.heap.size,3,none⟩=some d:=⟨KA4.out.cell 0,KA4.out.cell 1,KA4.out.cell 2,KA4.out.cell 3⟩);(have r0:=KB4.out.cell 0);(have f0:=KB4.out.free 0);(have r1:=KB4.out.cell 1);(have f1:=KB4.out.free 1);(have r2:=KB4.out.cell 2);(have f2:=KB4.out.free 2);(have r3:=KB4.out.cell 3);(have f3:=KB4.out.free 3);clear hbx ho))
 all_goals (
  obtain ⟨wz,hwz⟩:∃ wz,wz=(((w4.setCell ⟨w.heap.size+1,0,none⟩ (.slice x1 D.first.length y1)).setCell ⟨w.heap.size+1,1,none⟩ (.slice x2 D.goal.length y2)).setCell ⟨w.heap.size+1,2,none⟩ (.slice x3 D.made.length y3)).setCell ⟨w.heap.size+1,3,none⟩ (.slice x4 D.now.length y4):=⟨_,rfl⟩
  have KZ:=KB4.out.set4 (.slice x1 D.first.length y1) (.slice x2 D.goal.length y2) (.slice x3 D.made.length y3) (.slice x4 D.now.length y4)
  have hO:=Outside.set4 (w.heap.size+1) w4 (.slice x1 D.first.length y1) (.slice x2 D.goal.length y2) (.slice x3 D.made.length y3) (.slice x4 D.now.length y4)
  rw [←hwz] at KZ hO
  have hsz:=hO.size
  have HZ:=H_ (Below.outside HB4.out hO (by omega) HB4.out.size)
  have P1:=H_ (O1_4.out.outside hO (.inr (by omega)))
  have P2:=H_ (O2_4.out.outside hO (.inr (by omega)))
  have P3:=H_ (O3_4.out.outside hO (.inr (by omega)))
  have P4:=H_ (O4_4.out.outside hO (.inr (by omega)))
  have q0:=KZ.cell 0
  have q1:=KZ.cell 1
  have q2:=KZ.cell 2
  have q3:=KZ.cell 3
  clear KZ hO
  go_wp2
  simp only [←hwz]
  clear hwz
  refine bodyPost_ret (v:=.agg #[(.slice x1 D.first.length y1),(.slice x2 D.goal.length y2),(.slice x3 D.made.length y3),(.slice x4 D.now.length y4)]) (by simp [results,Tryz.results37,go_sem,q0,q1,q2,q3]) rfl ⟨_,_,_,_,rfl,?_,HZ.out⟩
  exact ⟨_,_,_,_,_,_,_,_,P1.out,P2.out,P3.out,P4.out,by omega,by omega,by omega,by omega,by omega,by omega,by omega,by omega,by omega,by omega⟩)
def madeV (D:Dsk) (a:Ac):Option (List Mv):=
 if namedB a then
  if a.kind=0 then some (D.made++[a.step])
  else if a.kind=1 then (if 1≤a.count∧a.count≤D.made.length then some (D.made.take (D.made.length-a.count.toNat)) else none)
  else (if simpBy D.now=[] then none else some (D.made++simpBy D.now))
 else none
def deskDo (D:Dsk) (a:Ac):Dsk × Bool:=
 if deskV D then
  match (madeV D a).bind fun ms=>(proofV D.first ms).map fun x=>(ms,x) with
  | some p=>(⟨D.first,D.goal,p.1,p.2⟩,true)
  | none=>(D,false)
 else (Dsk.none,false)
abbrev aggA (a:Ac):Value:=.agg #[.int .i64 a.kind,.int .i64 a.step.which,.bool a.step.back,.int .i64 a.step.at_,.int .i64 a.count]
theorem SlM.front {lo hi n cap:Nat} {w:World} {a:Option Addr} {xs:List Mv} (h:SlM lo hi w (.slice a n cap) xs) (j:Nat) (hj:j≤xs.length):SlM lo hi w (.slice a j cap) (xs.take j):=by
 obtain ⟨a',cap',e,h1,h2,h3,h4,h5⟩:=h
 injection e with e1 e2 e3
 subst e1 e2 e3
 have hl:(xs.take j).length=j:=by simp;omega
 have hxs:mvs xs=mvs (xs.take j)++mvs (xs.drop j):=by rw [←mvs_append,List.take_append_drop]
 have ht:mvs (xs.take j)=(mvs xs).take (j*3):=by
  rw [hxs]
  exact (List.take_left' (by rw [mvs_length,hl])).symm
 refine ⟨_,_,by rw [hl],by rw [hl];omega,h2,mvs_length _,h4,fun i hi'=>?_⟩
 rw [mvs_length,hl] at hi'
 have hml:=mvs_length xs
 obtain ⟨b,off,f1,f2,f3,f4,f5⟩:=h5 i (by omega)
 refine ⟨b,off,f1,f2,f3,f4,?_⟩
 rw [f5,ht,List.getElem?_take,if_pos (by omega)]
theorem Blk.one_mv {b:Nat} {m:Mv} {t:TypeId} {w:World} (h:Blk b (.cells (encMv m).toArray t) w):Sl 3 b (b+1) w (.slice (some ⟨b,0,none⟩) 1 1) 1 (encMv m):=by
 refine ⟨_,_,rfl,le_ _,by unfold maxLen;omega,rfl,(by intro h;cases h),fun i hi=>⟨b,0,rfl,le_ _,by omega,h.lt,?_⟩⟩
 rw [h.cell]
 simp
def MadeR (w:World) (r:Option (List Mv)) (v:Value) (ok:Bool) (w':World):Prop:=
 Below w.heap.size w w'∧ok=r.isSome∧(∃ l,OwnM w.heap.size w'.heap.size 67 w' v l)∧∀ ms,r=some ms→OwnM w.heap.size w'.heap.size 67 w' v ms
theorem MadeR.none {w w':World} {r:Option (List Mv)} (hr:r=Option.none) (hb:Below w.heap.size w w'):MadeR w r (.slice none 0 0) false w':=by
 subst hr
 exact ⟨hb,rfl,⟨[],Own.nil _ _ _ _ _⟩,fun ms h=>by cases h⟩
theorem named_kinds {a:Ac} (h:namedB a=true):a.kind=0∨a.kind=1∨a.kind=2:=by
 unfold namedB at h
 split at h
 ·rename_i h0;exact .inl (by simpa using h0)
 ·split at h
  ·rename_i h1;exact .inr (.inl (by simpa using h1))
  ·split at h
   ·rename_i h2;exact .inr (.inr (by simpa using h2))
   ·cases h
theorem madeBy_any (lo hi:Nat) (a b c d:Value) (D:Dsk) (A:Ac) (w:World) (hE:EnvK w) (hx:DeskAt lo hi w a b c d D) (hh:hi≤w.heap.size) (hm:D.size≤1048576) :
  Calls Tryz.prog 97 #[aggD a b c d,aggA A] w (RetVB (MadeR w (madeV D A))):=by
 unfold Dsk.size at hm
 obtain ⟨w0,hw0⟩:∃ w0,w0=(w.alloc (.cells #[a,b,c,d] 31)).alloc (.cells #[.int .i64 A.kind,.int .i64 A.step.which,.bool A.step.back,.int .i64 A.step.at_,.int .i64 A.count] 69):=⟨_,rfl⟩
 have hb0:Below w.heap.size w w0:=by rw [hw0];exact ((B_ _ _).alloc (le_ _) _).alloc (by simp) _
 have hs0:w0.heap.size=w.heap.size+2:=by rw [hw0];simp
 have K1:Hid (Blk w.heap.size (.cells #[a,b,c,d] 31) w0):=by
  rw [hw0]
  exact H_ ((Blk.new w _).below ((B_ (w.alloc _).heap.size _).alloc (le_ _) _) (by simp))
 have K2:Hid (Blk (w.heap.size+1) (.cells #[.int .i64 A.kind,.int .i64 A.step.which,.bool A.step.back,.int .i64 A.step.at_,.int .i64 A.count] 69) w0):=by
  have h:=Blk.new (w.alloc (.cells #[a,b,c,d] 31)) (.cells #[.int .i64 A.kind,.int .i64 A.step.which,.bool A.step.back,.int .i64 A.step.at_,.int .i64 A.count] 69)
  rw [alloc_size] at h
  rw [hw0];exact H_ h
 have HX:=H_ (hx.below hb0 hh)
 have HB:=H_ hb0
 have HE:=H_ (hE.below hb0)
 have HW0:=H_ hw0
 have a0:=K2.out.cell 0
 have a1:=K2.out.cell 1
 have a2:=K2.out.cell 2
 have a3:=K2.out.cell 3
 have a4:=K2.out.cell 4
 clear hx hE hb0 hw0
 obtain ⟨nb,hnb⟩:∃ nb,nb=namedB A:=⟨_,rfl⟩
 have HNB:=H_ hnb
 clear hnb
 go_enter Tryz.func97,Tryz.ntmps97
 go_wp2_with (rw [←HW0.out])
 refine (named_any A w0).mono ?_
 rintro e1 w1 ⟨rfl,hb1⟩
 rw [←HNB.out]
 have HB1:=H_ (HB.out.trans (hb1.mono (by omega)))
 have hs1:=hb1.size
 replace K1:=H_ (K1.out.below hb1 K1.out.lt)
 replace K2:=H_ (K2.out.below hb1 K2.out.lt)
 replace HX:=H_ (HX.out.below hb1 (by omega))
 replace HE:=H_ (HE.out.below hb1)
 clear hb1 a0 a1 a2 a3 a4 HB
 have a0:=K2.out.cell 0
 have a4:=K2.out.cell 4
 have d2:=K1.out.cell 2
 have d3:=K1.out.cell 3
 cases nb
 ·have HR:=H_ (show madeV D A=none by simp [madeV,←HNB.out])
  go_wp2
  go_ret2
  exact ⟨_,_,rfl,MadeR.none HR.out HB1.out⟩
 ·rcases named_kinds HNB.out.symm with hk|hk|hk
  ·have HR:=H_ (show madeV D A=some (D.made++[A.step]) by simp [madeV,←HNB.out,hk])
   rw [hk] at a0
   clear hk
   go_wp2_with fail
   have hbA:Below w1.heap.size w1 w1.drew:=Below.drew (B_ _ _)
   have hdA:w1.drew.heap.size=w1.heap.size:=rfl
   have hbB:Below w1.heap.size w1 (w1.alloc (.cells #[.int .i64 A.step.which,.bool A.step.back,.int .i64 A.step.at_] 67)).drew:=Below.drew ((B_ _ _).alloc (le_ _) _)
   have hdB:(w1.alloc (.cells #[.int .i64 A.step.which,.bool A.step.back,.int .i64 A.step.at_] 67)).drew.heap.size=w1.heap.size+1:=by show (w1.alloc _).heap.size=_;simp
   have KLB:Hid (Blk w1.heap.size (.cells (encMv A.step).toArray 67) (w1.alloc (.cells #[.int .i64 A.step.which,.bool A.step.back,.int .i64 A.step.at_] 67)).drew):=H_ (Blk.new w1 _)
   have HBA:=H_ (HB1.out.trans (hbA.mono HB1.out.size))
   have HBB:=H_ (HB1.out.trans (hbB.mono HB1.out.size))
   have HXA:=H_ (HX.out.below hbA (by omega))
   have HXB:=H_ (HX.out.below hbB (by omega))
   have K1A:=H_ (K1.out.below hbA K1.out.lt)
   have K1B:=H_ (K1.out.below hbB K1.out.lt)
   have K2A:=H_ (K2.out.below hbA K2.out.lt)
   have K2B:=H_ (K2.out.below hbB K2.out.lt)
   have hl1:=K1.out.lt
   have hl2:=K2.out.lt
   have hS1:w1.cell? ⟨w.heap.size,2,none⟩=some c∧w1.cell? ⟨w.heap.size+1,1,none⟩=some (.int .i64 A.step.which)∧w1.cell? ⟨w.heap.size+1,2,none⟩=some (.bool A.step.back)∧w1.cell? ⟨w.heap.size+1,3,none⟩=some (.int .i64 A.step.at_):=⟨K1.out.cell 2,K2.out.cell 1,K2.out.cell 2,K2.out.cell 3⟩
   have hSA:w1.drew.cell? ⟨w.heap.size,2,none⟩=some c∧w1.drew.cell? ⟨w.heap.size+1,1,none⟩=some (.int .i64 A.step.which)∧w1.drew.cell? ⟨w.heap.size+1,2,none⟩=some (.bool A.step.back)∧w1.drew.cell? ⟨w.heap.size+1,3,none⟩=some (.int .i64 A.step.at_):=hS1
   have hSB:(w1.alloc (.cells #[.int .i64 A.step.which,.bool A.step.back,.int .i64 A.step.at_] 67)).drew.cell? ⟨w.heap.size,2,none⟩=some c∧(w1.alloc (.cells #[.int .i64 A.step.which,.bool A.step.back,.int .i64 A.step.at_] 67)).drew.cell? ⟨w.heap.size+1,1,none⟩=some (.int .i64 A.step.which)∧(w1.alloc (.cells #[.int .i64 A.step.which,.bool A.step.back,.int .i64 A.step.at_] 67)).drew.cell? ⟨w.heap.size+1,2,none⟩=some (.bool A.step.back)∧(w1.alloc (.cells #[.int .i64 A.step.which,.bool A.step.back,.int .i64 A.step.at_] 67)).drew.cell? ⟨w.heap.size+1,3,none⟩=some (.int .i64 A.step.at_):=by
    have k1:=K1.out.below hbB K1.out.lt
    have k2:=K2.out.below hbB K2.out.lt
    exact ⟨k1.cell 2,k2.cell 1,k2.cell 2,k2.cell 3⟩
   clear hbA hbB d2 d3 a0 a4
   go_region_held3 (fun w'=>w'.cell? ⟨w.heap.size,2,none⟩=some c∧w'.cell? ⟨w.heap.size+1,1,none⟩=some (.int .i64 A.step.which)∧w'.cell? ⟨w.heap.size+1,2,none⟩=some (.bool A.step.back)∧w'.cell? ⟨w.heap.size+1,3,none⟩=some (.int .i64 A.step.at_)) (first | assumption | go_keep) (first
    | (go_at_call 77;refine (cloneM_any lo hi c D.made _ (by first | exact HXA.out.made | exact HXB.out.made) (by omega)).mono ?_;rintro e3 w3 ⟨v3,rfl,hb3,ho3⟩;(have hz3:=hb3.size);(have HB3:Hid (Below w.heap.size w w3):=H_ (by first | exact HBA.out.trans (hb3.mono (by omega)) | exact HBB.out.trans (hb3.mono (by omega))));(have KA1:Hid (Blk w.heap.size (.cells #[a,b,c,d] 31) w3):=H_ (by first | exact K1A.out.below hb3 (by omega) | exact K1B.out.below hb3 (by omega)));(have KA2:Hid (Blk (w.heap.size+1) (.cells #[.int .i64 A.kind,.int .i64 A.step.which,.bool A.step.back,.int .i64 A.step.at_,.int .i64 A.count] 69) w3):=H_ (by first | exact K2A.out.below hb3 (by omega) | exact K2B.out.below hb3 (by omega)));(have hS3:w3.cell? ⟨w.heap.size,2,none⟩=some c∧w3.cell? ⟨w.heap.size+1,1,none⟩=some (.int .i64 A.step.which)∧w3.cell? ⟨w.heap.size+1,2,none⟩=some (.bool A.step.back)∧w3.cell? ⟨w.heap.size+1,3,none⟩=some (.int .i64 A.step.at_):=⟨KA1.out.cell 2,KA2.out.cell 1,KA2.out.cell 2,KA2.out.cell 3⟩);(have HO3:=H_ ho3);(try have KL3:=H_ (KLB.out.below hb3 (by omega)));obtain ⟨xa,xc,rfl,_⟩:=Own.open ho3;clear hb3 ho3)
    | (refine step_app_sl (by rfl) _ _ 29 (by rfl) 67 (.agg #[.int .i64 0,.bool false,.int .i64 0]) 3 24 Tryz.underlying29 info_mv (by rfl) (by decide) (by decide) (by rfl) (by first | exact Own.below HO3.out ((B_ _ _).alloc (le_ _) _) (le_ _) | exact HO3.out) (by rfl) (by first | exact KL3.out.one_mv | exact (Blk.new w3 _).one_mv) (encMv_one A.step) (by omega) (by first | omega | (simp only [alloc_size];omega)) ?_;intro v5 w5 ho5 hout5;(have hz5:=hout5.size);(have KC1:Hid (Blk w.heap.size (.cells #[a,b,c,d] 31) w5):=H_ (by first | exact (KA1.out.below ((B_ w3.heap.size w3).alloc (le_ _) _) KA1.out.lt).outside hout5 (by omega) | exact KA1.out.outside hout5 (by omega)));(have KC2:Hid (Blk (w.heap.size+1) (.cells #[.int .i64 A.kind,.int .i64 A.step.which,.bool A.step.back,.int .i64 A.step.at_,.int .i64 A.count] 69) w5):=H_ (by first | exact (KA2.out.below ((B_ w3.heap.size w3).alloc (le_ _) _) KA2.out.lt).outside hout5 (by omega) | exact KA2.out.outside hout5 (by omega)));(have hS5:w5.cell? ⟨w.heap.size,2,none⟩=some c∧w5.cell? ⟨w.heap.size+1,1,none⟩=some (.int .i64 A.step.which)∧w5.cell? ⟨w.heap.size+1,2,none⟩=some (.bool A.step.back)∧w5.cell? ⟨w.heap.size+1,3,none⟩=some (.int .i64 A.step.at_):=⟨KC1.out.cell 2,KC2.out.cell 1,KC2.out.cell 2,KC2.out.cell 3⟩);(have HB5:Hid (Below w.heap.size w w5):=H_ (by first | exact Below.outside (HB3.out.alloc (by omega) _) hout5 (by omega) (by simp;omega) | exact Below.outside HB3.out hout5 (by omega) (by omega)));(have HO5:Hid (OwnM w.heap.size w5.heap.size 67 w5 v5 (D.made++[A.step])):=H_ (by unfold OwnM;rw [List.length_append,mvs_append];exact Own.wide2 ho5 (by omega) (le_ _)));obtain ⟨ya,yc,rfl,_⟩:=Own.open ho5;clear ho5 hout5))
   all_goals (
    go_wp2
    go_ret2
    refine ⟨_,_,rfl,HB5.out,by rw [HR.out];rfl,⟨_,HO5.out⟩,fun ms h=>?_⟩
    rw [HR.out] at h
    injection h with h
    subst h
    exact HO5.out)
  ·rw [hk] at a0
   obtain ⟨ma,mc,hce,hmc1,hmc2⟩:=HX.out.made.shape
   subst hce
   unfold maxLen at hmc2
   by_cases h1:1≤A.count∧A.count≤D.made.length
   ·obtain ⟨k,hk2,hkl⟩:∃ k:Nat,(D.made.length:Int)-A.count=k∧k≤D.made.length:=⟨((D.made.length:Int)-A.count).toNat,by omega,by omega⟩
    have HR:=H_ (show madeV D A=some (D.made.take k) by
     simp only [madeV,←HNB.out,hk,if_pos h1]
     rw [show D.made.length-A.count.toNat=k by omega]
     simp)
    have HF:=H_ (HX.out.made.front k hkl)
    have g1:¬A.count<1:=by omega
    have g2:¬(D.made.length:Int)<A.count:=by omega
    have g3:(0:Int)≤k:=by omega
    have g4:(k:Int)≤mc:=by omega
    have g5:k≤mc:=by omega
    have hlk:(D.made.take k).length=k:=by simp;omega
    clear hk h1
    go_wp2_with fail
    refine (cloneM_any _ _ _ (D.made.take k) w1 HF.out (by omega)).mono ?_
    rintro e3 w3 ⟨v3,rfl,hb3,ho3⟩
    have HB3:=H_ (HB1.out.trans (hb3.mono HB1.out.size))
    have HO3:Hid (OwnM w.heap.size w3.heap.size 67 w3 v3 (D.made.take k)):=H_ (Own.wide2 ho3 HB1.out.size (le_ _))
    have HLK:=H_ hlk
    obtain ⟨xa,xc,rfl,_⟩:=Own.open ho3
    clear hb3 ho3 hlk
    go_wp2
    rw [HLK.out] at HO3
    go_ret2
    refine ⟨_,_,rfl,HB3.out,by rw [HR.out];rfl,⟨_,HO3.out⟩,fun ms h=>?_⟩
    rw [HR.out] at h
    injection h with h
    subst h
    exact HO3.out
   ·have HR:=H_ (show madeV D A=none by
     simp only [madeV,←HNB.out,hk,if_neg h1]
     simp)
    have hcs:A.count<1∨(¬A.count<1∧(D.made.length:Int)<A.count):=by omega
    clear hk h1
    rcases hcs with g1|⟨g1,g2⟩
    all_goals (
     go_wp2
     go_ret2
     exact ⟨_,_,rfl,MadeR.none HR.out HB1.out⟩)
  ·rw [hk] at a0
   have HR:=H_ (show madeV D A=(if simpBy D.now=[] then none else some (D.made++simpBy D.now)) by simp [madeV,←HNB.out,hk])
   have hsl:=simpBy_len D.now
   clear hk
   go_wp2_with fail
   refine (impl_SimpleBy _ D.now w1 HE.out (SlI.rd HX.out.now (by omega)) (by omega)).mono ?_
   rintro e3 w3 ⟨v3,rfl,hb3,ho3⟩
   have hs3:=hb3.size
   have HB3:=H_ (HB1.out.trans (hb3.mono HB1.out.size))
   replace K1:=H_ (K1.out.below hb3 K1.out.lt)
   replace HX:=H_ (HX.out.below hb3 (by omega))
   have HS3:=H_ ho3.sl
   obtain ⟨xa,xc,rfl,_⟩:=Own.open ho3
   clear hb3 ho3 a0 a4 d2 d3
   have d2:=K1.out.cell 2
   go_wp2_with fail
   refine (cloneM_any _ _ _ D.made w3 HX.out.made (by omega)).mono ?_
   rintro e4 w4 ⟨v4,rfl,hb4,ho4⟩
   have hs4:=hb4.size
   have HB4:=H_ (HB3.out.trans (hb4.mono HB3.out.size))
   replace HS3:=H_ (HS3.out.below hb4 (le_ _))
   have HO4:=H_ ho4
   obtain ⟨ya,yc,rfl,_⟩:=Own.open ho4
   have hsz3:=HB3.out.size
   clear hb4 ho4 d2
   generalize simpBy D.now=sm at HR HS3 hsl
   have hp:((0:Int)<sm.length)=(0<sm.length):=by simp
   by_cases hsm:sm=[]
   ·subst hsm
    go_wp2_with (at_builtin;go_loud (refine wpList_app_sl rfl _ _ 29 rfl 67 (.agg #[.int .i64 0,.bool false,.int .i64 0]) 3 24 Tryz.underlying29 info_mv rfl (by decide) (by decide) rfl HO4.out rfl HS3.out (mvs_one _) (by simp;omega) (by omega) ?_))
    intro v5 w5 ho5 _ hout5 _
    have HB5:=H_ (Below.outside HB4.out hout5 hsz3 (by omega))
    have HO5:=H_ (Own.wide2 ho5 hsz3 (le_ _))
    obtain ⟨za,zc,rfl,_⟩:=Own.open ho5
    clear ho5 hout5
    go_wp2
    go_ret2
    refine ⟨_,_,rfl,HB5.out,by rw [HR.out];rfl,⟨D.made,?_⟩,fun ms h=>?_⟩
    ·have h:=HO5.out
     simpa [OwnM,mvs] using h
    ·rw [HR.out] at h
     cases h
   ·have hpos:0<sm.length:=List.length_pos_iff.2 hsm
    rw [if_neg hsm] at HR
    clear hsm
    go_wp2_with (at_builtin;go_loud (refine wpList_app_sl rfl _ _ 29 rfl 67 (.agg #[.int .i64 0,.bool false,.int .i64 0]) 3 24 Tryz.underlying29 info_mv rfl (by decide) (by decide) rfl HO4.out rfl HS3.out (mvs_one _) (by omega) (by omega) ?_))
    intro v5 w5 ho5 _ hout5 _
    have HB5:=H_ (Below.outside HB4.out hout5 hsz3 (by omega))
    have HO5:Hid (OwnM w.heap.size w5.heap.size 67 w5 v5 (D.made++sm)):=by
     refine H_ ?_
     unfold OwnM
     rw [List.length_append,mvs_append]
     exact Own.wide2 ho5 hsz3 (le_ _)
    obtain ⟨za,zc,rfl,_⟩:=Own.open ho5
    clear ho5 hout5
    go_wp2
    go_ret2
    refine ⟨_,_,rfl,HB5.out,by rw [HR.out];rfl,⟨_,HO5.out⟩,fun ms h=>?_⟩
    rw [HR.out] at h
    injection h with h
    subst h
    exact HO5.out
def RetDB (P:Value→Value→Value→Value→Bool→World→Prop) (e:Ending) (w':World):Prop:=∃ a b c d ok,e=.returned (.tuple #[aggD a b c d,.bool ok])∧P a b c d ok w'
theorem RetDB.mk {P:Value→Value→Value→Value→Bool→World→Prop} {e:Ending} {w':World} (a b c d:Value) (ok:Bool) (h:e=.returned (.tuple #[aggD a b c d,.bool ok])) (hp:P a b c d ok w'):RetDB P e w':=⟨a,b,c,d,ok,h,hp⟩
theorem madeV_len {D:Dsk} {A:Ac} {x:List Int} {ms:List Mv} (hx:proofV D.first D.made=some x) (h:madeV D A=some ms):ms.length≤1048576:=by
 have h1:D.made.length≤60:=by
  unfold proofV at hx
  split at hx
  ·rename_i h2;simp at h2;exact h2.2
  ·cases hx
 have h3:=simpBy_len D.now
 unfold madeV at h
 repeat' split at h
 all_goals first
  | (cases h;simp;omega)
  | (cases h;done)
theorem DeskOwn.open {lo hi:Nat} {w:World} {a b c d:Value} {D:Dsk} (h:DeskOwn lo hi w a b c d D):∃ x0 y0 x1 y1 x2 y2 x3 y3,a=.slice x0 D.first.length y0∧b=.slice x1 D.goal.length y1∧c=.slice x2 D.made.length y2∧d=.slice x3 D.now.length y3:=by
 obtain ⟨_,_,_,_,_,_,_,_,p0,p1,p2,p3,_⟩:=h.ranges
 obtain ⟨x0,y0,e0,_⟩:=Own.open p0
 obtain ⟨x1,y1,e1,_⟩:=Own.open p1
 obtain ⟨x2,y2,e2,_⟩:=Own.open p2
 obtain ⟨x3,y3,e3,_⟩:=Own.open p3
 exact ⟨x0,y0,x1,y1,x2,y2,x3,y3,e0,e1,e2,e3⟩
abbrev DoneR (w:World) (r:Dsk × Bool):Ending→World→Prop:=RetDB fun a b c d ok w'=>DeskOwn w.heap.size w'.heap.size w' a b c d r.1∧ok=r.2∧Below w.heap.size w w'
theorem impl_DeskDo (lo hi:Nat) (a b c d:Value) (D:Dsk) (A:Ac) (w:World) (hE:EnvK w) (hx:DeskAt lo hi w a b c d D) (hh:hi≤w.heap.size) (hm:D.size≤1048576) :
  Calls Tryz.prog 50 #[aggD a b c d,aggA A] w (DoneR w (deskDo D A)):=by
 have HM:=H_ hm
 unfold Dsk.size at hm
 obtain ⟨w0,hw0⟩:∃ w0,w0=((w.alloc (.cells #[a,b,c,d] 31)).alloc (.cells #[.int .i64 A.kind,.int .i64 A.step.which,.bool A.step.back,.int .i64 A.step.at_,.int .i64 A.count] 69)).alloc (.cells #[.slice none 0 0,.slice none 0 0,.slice none 0 0,.slice none 0 0] 31):=⟨_,rfl⟩
 have hb0:Below w.heap.size w w0:=by rw [hw0];exact (((B_ _ _).alloc (le_ _) _).alloc (by simp) _).alloc (by simp;omega) _
 have hs0:w0.heap.size=w.heap.size+3:=by rw [hw0];simp
 have K1:Hid (Blk w.heap.size (.cells #[a,b,c,d] 31) w0):=by
  rw [hw0]
  exact H_ (((Blk.new w _).below ((B_ (w.alloc _).heap.size _).alloc (le_ _) _) (by simp)).below ((B_ ((w.alloc _).alloc _).heap.size _).alloc (le_ _) _) (by simp;omega))
 have K2:Hid (Blk (w.heap.size+1) (.cells #[.int .i64 A.kind,.int .i64 A.step.which,.bool A.step.back,.int .i64 A.step.at_,.int .i64 A.count] 69) w0):=by
  have h:=(Blk.new (w.alloc (.cells #[a,b,c,d] 31)) (.cells #[.int .i64 A.kind,.int .i64 A.step.which,.bool A.step.back,.int .i64 A.step.at_,.int .i64 A.count] 69)).below ((B_ ((w.alloc (.cells #[a,b,c,d] 31)).alloc (.cells #[.int .i64 A.kind,.int .i64 A.step.which,.bool A.step.back,.int .i64 A.step.at_,.int .i64 A.count] 69)).heap.size _).alloc (o:=(.cells #[.slice none 0 0,.slice none 0 0,.slice none 0 0,.slice none 0 0] 31)) (le_ _)) (by simp)
  rw [alloc_size] at h
  rw [hw0];exact H_ h
 have K3:Hid (Blk (w.heap.size+1+1) (.cells #[.slice none 0 0,.slice none 0 0,.slice none 0 0,.slice none 0 0] 31) w0):=by
  have h:=Blk.new ((w.alloc (.cells #[a,b,c,d] 31)).alloc (.cells #[.int .i64 A.kind,.int .i64 A.step.which,.bool A.step.back,.int .i64 A.step.at_,.int .i64 A.count] 69)) (.cells #[.slice none 0 0,.slice none 0 0,.slice none 0 0,.slice none 0 0] 31)
  rw [alloc_size,alloc_size] at h
  rw [hw0];exact H_ h
 have HX:=H_ (hx.below hb0 hh)
 have HB:=H_ hb0
 have HE:=H_ (hE.below hb0)
 have HW0:=H_ hw0
 clear hx hE hb0 hw0
 obtain ⟨dv,hdv⟩:∃ dv,dv=deskV D:=⟨_,rfl⟩
 have HDV:=H_ hdv
 clear hdv
 have d0:=K1.out.cell 0
 have d1:=K1.out.cell 1
 have d2:=K1.out.cell 2
 have d3:=K1.out.cell 3
 have a0:=K2.out.cell 0
 have a1:=K2.out.cell 1
 have a2:=K2.out.cell 2
 have a3:=K2.out.cell 3
 have a4:=K2.out.cell 4
 go_enter Tryz.func50,Tryz.ntmps50
 go_wp2_with (rw [←HW0.out])
 refine (impl_DeskValid _ _ a b c d D w0 HE.out HX.out (by omega) HM.out).mono ?_
 rintro e1 w1 ⟨rfl,hb1⟩
 rw [←HDV.out]
 have hs1:=hb1.size
 replace HB:=H_ (HB.out.trans (hb1.mono (by omega)))
 replace K1:=H_ (K1.out.below hb1 K1.out.lt)
 replace K2:=H_ (K2.out.below hb1 K2.out.lt)
 replace K3:=H_ (K3.out.below hb1 K3.out.lt)
 replace HX:=H_ (HX.out.below hb1 (by omega))
 replace HE:=H_ (HE.out.below hb1)
 clear hb1 d0 d1 d2 d3 a0 a1 a2 a3 a4
 have d0:=K1.out.cell 0
 have d1:=K1.out.cell 1
 have d2:=K1.out.cell 2
 have d3:=K1.out.cell 3
 have a0:=K2.out.cell 0
 have a1:=K2.out.cell 1
 have a2:=K2.out.cell 2
 have a3:=K2.out.cell 3
 have a4:=K2.out.cell 4
 cases dv
 ·have HD:=H_ (show deskDo D A=(Dsk.none,false) by simp [deskDo,←HDV.out])
  have f0:=K3.out.free 0
  have f1:=K3.out.free 1
  have f2:=K3.out.free 2
  have f3:=K3.out.free 3
  have c0:=K3.out.cell 0
  have c1:=K3.out.cell 1
  have c2:=K3.out.cell 2
  have c3:=K3.out.cell 3
  obtain ⟨wz,hwz⟩:∃ wz,wz=(((w1.setCell ⟨w.heap.size+1+1,0,none⟩ (.slice none 0 0)).setCell ⟨w.heap.size+1+1,1,none⟩ (.slice none 0 0)).setCell ⟨w.heap.size+1+1,2,none⟩ (.slice none 0 0)).setCell ⟨w.heap.size+1+1,3,none⟩ (.slice none 0 0):=⟨_,rfl⟩
  have KZ:=K3.out.set4 (.slice none 0 0) (.slice none 0 0) (.slice none 0 0) (.slice none 0 0)
  have hO:=Outside.set4 (w.heap.size+1+1) w1 (.slice none 0 0) (.slice none 0 0) (.slice none 0 0) (.slice none 0 0)
  rw [←hwz] at KZ hO
  have hsz:=hO.size
  have HZ:=H_ (Below.outside HB.out hO (by omega) (by omega))
  have HOZ:=H_ hO
  have q0:=KZ.cell 0
  have q1:=KZ.cell 1
  have q2:=KZ.cell 2
  have q3:=KZ.cell 3
  clear KZ hO
  go_wp2
  simp only [←hwz]
  clear hwz
  refine bodyPost_ret (v:=.tuple #[aggD (.slice none 0 0) (.slice none 0 0) (.slice none 0 0) (.slice none 0 0),.bool false]) (by simp [results,Tryz.results50,go_sem,q0,q1,q2,q3]) rfl (RetDB.mk _ _ _ _ _ rfl ⟨?_,?_,HZ.out⟩)
  ·rw [HD.out]
   exact DeskOwn.nils _ _ HZ.out.size _
  ·rw [HD.out]
 ·go_wp2_with fail
  obtain ⟨ma,mc,hce,hmc1,hmc2⟩:=HX.out.made.shape
  refine (madeBy_any _ _ a b c d D A w1 HE.out HX.out (by omega) HM.out).mono ?_
  rintro e2 w2 ⟨vm,ok1,rfl,hb2,hok1,⟨lm,hlm⟩,hms⟩
  obtain ⟨xa,xc,rfl,_⟩:=Own.open hlm
  have hs2:=hb2.size
  replace HB:=H_ (HB.out.trans (hb2.mono (by omega)))
  replace K1:=H_ (K1.out.below hb2 K1.out.lt)
  replace K2:=H_ (K2.out.below hb2 K2.out.lt)
  replace K3:=H_ (K3.out.below hb2 K3.out.lt)
  replace HX:=H_ (HX.out.below hb2 (by omega))
  replace HE:=H_ (HE.out.below hb2)
  clear hb2 d0 d1 d2 d3 a0 a1 a2 a3 a4
  have d0:=K1.out.cell 0
  have d1:=K1.out.cell 1
  have d2:=K1.out.cell 2
  have d3:=K1.out.cell 3
  have HOK1:=H_ hok1
  have HMS:=H_ hms
  clear hok1 hms hce
  obtain ⟨r1,hr1⟩:∃ r1,r1=madeV D A:=⟨_,rfl⟩
  rw [←hr1] at HOK1 HMS
  have HR1:=H_ hr1
  clear hr1
  cases r1 with
  | none=>
   obtain rfl:ok1=false:=HOK1.out
   have HD:=H_ (show deskDo D A=(D,false) by simp [deskDo,←HDV.out,←HR1.out])
   go_wp2_with fail
   refine (desk_clone _ _ a b c d D w2 HX.out (by omega) HM.out).mono ?_
   rintro e3 w3 ⟨x0,x1,x2,x3,rfl,ho3,hb3⟩
   have hs3:=hb3.size
   replace HB:=H_ (HB.out.trans (hb3.mono (by omega)))
   replace K3:=H_ (K3.out.below hb3 K3.out.lt)
   have HO3:=H_ ho3
   obtain ⟨x0,y0,x1,y1,x2,y2,x3,y3,rfl,rfl,rfl,rfl⟩:=ho3.open
   clear hb3 ho3 d0 d1 d2 d3
   have f0:=K3.out.free 0
   have f1:=K3.out.free 1
   have f2:=K3.out.free 2
   have f3:=K3.out.free 3
   have c0:=K3.out.cell 0
   have c1:=K3.out.cell 1
   have c2:=K3.out.cell 2
   have c3:=K3.out.cell 3
   obtain ⟨wz,hwz⟩:∃ wz,wz=(((w3.setCell ⟨w.heap.size+1+1,0,none⟩ (.slice x0 D.first.length y0)).setCell ⟨w.heap.size+1+1,1,none⟩ (.slice x1 D.goal.length y1)).setCell ⟨w.heap.size+1+1,2,none⟩ (.slice x2 D.made.length y2)).setCell ⟨w.heap.size+1+1,3,none⟩ (.slice x3 D.now.length y3):=⟨_,rfl⟩
   have KZ:=K3.out.set4 (.slice x0 D.first.length y0) (.slice x1 D.goal.length y1) (.slice x2 D.made.length y2) (.slice x3 D.now.length y3)
   have hO:=Outside.set4 (w.heap.size+1+1) w3 (.slice x0 D.first.length y0) (.slice x1 D.goal.length y1) (.slice x2 D.made.length y2) (.slice x3 D.now.length y3)
   rw [←hwz] at KZ hO
   have hsz:=hO.size
   have HZ:=H_ (Below.outside HB.out hO (by omega) (by omega))
   have HOZ:=H_ hO
   have q0:=KZ.cell 0
   have q1:=KZ.cell 1
   have q2:=KZ.cell 2
   have q3:=KZ.cell 3
   clear KZ hO
   go_wp2
   simp only [←hwz]
   clear hwz
   refine bodyPost_ret (v:=.tuple #[aggD (.slice x0 D.first.length y0) (.slice x1 D.goal.length y1) (.slice x2 D.made.length y2) (.slice x3 D.now.length y3),.bool false]) (by simp [results,Tryz.results50,go_sem,q0,q1,q2,q3]) rfl (RetDB.mk _ _ _ _ _ rfl ⟨?_,?_,HZ.out⟩)
   ·rw [HD.out]
    exact (HO3.out.outside HOZ.out (.inr (by omega))).wide (by omega) (by omega)
   ·rw [HD.out]
  | some ms=>
   obtain rfl:ok1=true:=HOK1.out
   have hm2:=HMS.out ms rfl
   obtain ⟨xb,yb,hxe,_⟩:=Own.open hm2
   have HM2:=H_ hm2
   obtain ⟨x,hx⟩:∃ x,proofV D.first D.made=some x:=by
    have h:=HDV.out
    unfold deskV at h
    cases hp:proofV D.first D.made with
    | none=>rw [hp] at h;cases h
    | some x=>exact ⟨x,rfl⟩
   have hml:ms.length≤1048576:=madeV_len hx HR1.out.symm
   clear hlm hm2 hxe hx
   go_wp2_with fail
   refine (impl_ProofRun _ _ _ _ a _ D.first ms w2 HE.out HX.out.first (by omega) (OwnM.sl HM2.out) hml).mono ?_
   rintro e3 w3 ⟨v3,ok3,rfl,hb3,hok3,ho3⟩
   obtain ⟨xn,yn,rfl,_⟩:=Own.open ho3
   have hs3:=hb3.size
   replace HB:=H_ (HB.out.trans (hb3.mono (by omega)))
   replace K1:=H_ (K1.out.below hb3 K1.out.lt)
   replace K3:=H_ (K3.out.below hb3 K3.out.lt)
   replace HX:=H_ (HX.out.below hb3 (by omega))
   replace HM2:=H_ (OwnM.below HM2.out hb3 (le_ _))
   have HO3:=H_ ho3
   have HOK3:=H_ hok3
   clear hb3 ho3 hok3 d0 d1 d2 d3
   have d0:=K1.out.cell 0
   have d1:=K1.out.cell 1
   have d2:=K1.out.cell 2
   have d3:=K1.out.cell 3
   obtain ⟨r2,hr2⟩:∃ r2,r2=proofV D.first ms:=⟨_,rfl⟩
   rw [←hr2] at HOK3 HO3
   have HR2:=H_ hr2
   clear hr2
   cases r2 with
   | none=>
    obtain rfl:ok3=false:=HOK3.out
    have HD:=H_ (show deskDo D A=(D,false) by simp [deskDo,←HDV.out,←HR1.out,←HR2.out])
    go_wp2_with fail
    refine (desk_clone _ _ a b c d D w3 HX.out (by omega) HM.out).mono ?_
    rintro e4 w4 ⟨z0,z1,z2,z3,rfl,ho4,hb4⟩
    have hs4:=hb4.size
    replace HB:=H_ (HB.out.trans (hb4.mono (by omega)))
    replace K3:=H_ (K3.out.below hb4 K3.out.lt)
    have HO4:=H_ ho4
    obtain ⟨x0,y0,x1,y1,x2,y2,x3,y3,rfl,rfl,rfl,rfl⟩:=ho4.open
    clear hb4 ho4 d0 d1 d2 d3
    have f0:=K3.out.free 0
    have f1:=K3.out.free 1
    have f2:=K3.out.free 2
    have f3:=K3.out.free 3
    have c0:=K3.out.cell 0
    have c1:=K3.out.cell 1
    have c2:=K3.out.cell 2
    have c3:=K3.out.cell 3
    obtain ⟨wz,hwz⟩:∃ wz,wz=(((w4.setCell ⟨w.heap.size+1+1,0,none⟩ (.slice x0 D.first.length y0)).setCell ⟨w.heap.size+1+1,1,none⟩ (.slice x1 D.goal.length y1)).setCell ⟨w.heap.size+1+1,2,none⟩ (.slice x2 D.made.length y2)).setCell ⟨w.heap.size+1+1,3,none⟩ (.slice x3 D.now.length y3):=⟨_,rfl⟩
    have KZ:=K3.out.set4 (.slice x0 D.first.length y0) (.slice x1 D.goal.length y1) (.slice x2 D.made.length y2) (.slice x3 D.now.length y3)
    have hO:=Outside.set4 (w.heap.size+1+1) w4 (.slice x0 D.first.length y0) (.slice x1 D.goal.length y1) (.slice x2 D.made.length y2) (.slice x3 D.now.length y3)
    rw [←hwz] at KZ hO
    have hsz:=hO.size
    have HZ:=H_ (Below.outside HB.out hO (by omega) (by omega))
    have HOZ:=H_ hO
    have q0:=KZ.cell 0
    have q1:=KZ.cell 1
    have q2:=KZ.cell 2
    have q3:=KZ.cell 3
    clear KZ hO
    go_wp2
    simp only [←hwz]
    clear hwz
    refine bodyPost_ret (v:=.tuple #[aggD (.slice x0 D.first.length y0) (.slice x1 D.goal.length y1) (.slice x2 D.made.length y2) (.slice x3 D.now.length y3),.bool false]) (by simp [results,Tryz.results50,go_sem,q0,q1,q2,q3]) rfl (RetDB.mk _ _ _ _ _ rfl ⟨?_,?_,HZ.out⟩)
    ·rw [HD.out]
     exact (HO4.out.outside HOZ.out (.inr (by omega))).wide (by omega) (by omega)
    ·rw [HD.out]
   | some x=>
    obtain rfl:ok3=true:=HOK3.out
    go_wp2_with fail
    refine (desk_clone _ _ a b c d D w3 HX.out (by omega) HM.out).mono ?_
    rintro e4 w4 ⟨z0,z1,z2,z3,rfl,ho4,hb4⟩
    have hs4:=hb4.size
    replace HB:=H_ (HB.out.trans (hb4.mono (by omega)))
    replace K3:=H_ (K3.out.below hb4 K3.out.lt)
    have HO4:=H_ ho4
    obtain ⟨x0,y0,x1,y1,x2,y2,x3,y3,rfl,rfl,rfl,rfl⟩:=ho4.open
    clear ho4 d0 d1 d2 d3
    have hb5:Below w4.heap.size w4 (w4.alloc (.cells #[(.slice x0 D.first.length y0),(.slice x1 D.goal.length y1),(.slice xa lm.length xc),(.slice xn ((proofV D.first ms).getD []).length yn)] 31)):=(B_ _ _).alloc (le_ _) _
    have hs5:(w4.alloc (.cells #[(.slice x0 D.first.length y0),(.slice x1 D.goal.length y1),(.slice xa lm.length xc),(.slice xn ((proofV D.first ms).getD []).length yn)] 31)).heap.size=w4.heap.size+1:=by simp
    replace HB:=H_ (HB.out.trans (hb5.mono (by omega)))
    replace K3:=H_ (K3.out.below hb5 K3.out.lt)
    replace HM2:=H_ ((OwnM.below HM2.out hb4 (by omega)).below hb5 (by omega))
    replace HO3:=H_ ((OwnI.below HO3.out hb4 (by omega)).below hb5 (by omega))
    replace HO4:=H_ (HO4.out.below hb5 (le_ _))
    clear hb4 hb5
    have HD:=H_ (show deskDo D A=(⟨D.first,D.goal,ms,x⟩,true) by simp [deskDo,←HDV.out,←HR1.out,←HR2.out])
    have f0:=K3.out.free 0
    have f1:=K3.out.free 1
    have f2:=K3.out.free 2
    have f3:=K3.out.free 3
    have c0:=K3.out.cell 0
    have c1:=K3.out.cell 1
    have c2:=K3.out.cell 2
    have c3:=K3.out.cell 3
    obtain ⟨wz,hwz⟩:∃ wz,wz=((((w4.alloc (.cells #[(.slice x0 D.first.length y0),(.slice x1 D.goal.length y1),(.slice xa lm.length xc),(.slice xn ((proofV D.first ms).getD []).length yn)] 31)).setCell ⟨w.heap.size+1+1,0,none⟩ (.slice x0 D.first.length y0)).setCell ⟨w.heap.size+1+1,1,none⟩ (.slice x1 D.goal.length y1)).setCell ⟨w.heap.size+1+1,2,none⟩ (.slice xa lm.length xc)).setCell ⟨w.heap.size+1+1,3,none⟩ (.slice xn ((proofV D.first ms).getD []).length yn):=⟨_,rfl⟩
    have KZ:=K3.out.set4 (.slice x0 D.first.length y0) (.slice x1 D.goal.length y1) (.slice xa lm.length xc) (.slice xn ((proofV D.first ms).getD []).length yn)
    have hO:=Outside.set4 (w.heap.size+1+1) (w4.alloc (.cells #[(.slice x0 D.first.length y0),(.slice x1 D.goal.length y1),(.slice xa lm.length xc),(.slice xn ((proofV D.first ms).getD []).length yn)] 31)) (.slice x0 D.first.length y0) (.slice x1 D.goal.length y1) (.slice xa lm.length xc) (.slice xn ((proofV D.first ms).getD []).length yn)
    rw [←hwz] at KZ hO
    have hsz:=hO.size
    have HZ:=H_ (Below.outside HB.out hO (by omega) (by omega))
    have HOZ:=H_ hO
    have q0:=KZ.cell 0
    have q1:=KZ.cell 1
    have q2:=KZ.cell 2
    have q3:=KZ.cell 3
    clear KZ hO
    go_wp2
    simp only [←hwz]
    clear hwz
    refine bodyPost_ret (v:=.tuple #[aggD (.slice x0 D.first.length y0) (.slice x1 D.goal.length y1) (.slice xa lm.length xc) (.slice xn ((proofV D.first ms).getD []).length yn),.bool true]) (by simp [results,Tryz.results50,go_sem,q0,q1,q2,q3]) rfl (RetDB.mk _ _ _ _ _ rfl ⟨?_,?_,HZ.out⟩)
    ·rw [HD.out]
     obtain ⟨l1,h1,l2,h2,l3,h3,l4,h4,o1,o2,o3,o4,r1,r2,r3,r4,rest⟩:=HO4.out.outside HOZ.out (.inr (by omega))
     exact ⟨l1,h1,l2,h2,w1.heap.size,w2.heap.size,w2.heap.size,w3.heap.size,o1,o2,OwnM.outside HM2.out HOZ.out (.inr (by omega)),(by rw [←HR2.out];exact OwnI.outside HO3.out HOZ.out (.inr (by omega))),by omega,by omega,by omega,by omega,rest.1,.inr (by omega),.inr (by omega),.inr (by omega),.inr (by omega),.inl (by omega)⟩
    ·rw [HD.out]
theorem spec_l10With (lo hi lo' hi':Nat) (a b c d vm:Value) (D:Dsk) (ms:List Mv) (w:World) (hx:DeskAt lo hi w a b c d D) (hh:hi≤w.heap.size) (hm:D.size≤1048576) (hms:SlM lo' hi' w vm ms) (hh':hi'≤w.heap.size) (hml:ms.length≤1048576) (hk:(katV D.first&&katV D.goal)=true) :
  Calls Tryz.prog 34 #[aggD a b c d,vm] w (DeskRet w ⟨D.first,D.goal,ms,(proofV D.first ms).getD []⟩):=by
 unfold Dsk.size at hm
 obtain ⟨w0,hw0⟩:∃ w0,w0=(w.alloc (.cells #[a,b,c,d] 31)).alloc (.cells #[.slice none 0 0,.slice none 0 0,.slice none 0 0,.slice none 0 0] 31):=⟨_,rfl⟩
 have HB:Hid (Below w.heap.size w w0):=by rw [hw0];exact H_ (((B_ _ _).alloc (le_ _) _).alloc (by simp) _)
 have K1:Hid (Blk w.heap.size (.cells #[a,b,c,d] 31) w0):=by
  rw [hw0]
  exact H_ ((Blk.new w _).below ((B_ (w.alloc _).heap.size _).alloc (le_ _) _) (by simp))
 have K2:Hid (Blk (w.heap.size+1) (.cells #[.slice none 0 0,.slice none 0 0,.slice none 0 0,.slice none 0 0] 31) w0):=by
  have h:=Blk.new (w.alloc (.cells #[a,b,c,d] 31)) (.cells #[.slice none 0 0,.slice none 0 0,.slice none 0 0,.slice none 0 0] 31)
  rw [alloc_size] at h
  rw [hw0];exact H_ h
 have hs0:w0.heap.size=w.heap.size+2:=by rw [hw0];simp
 have HX:=H_ (hx.below HB.out hh)
 have HMS:=H_ (Sl.below hms HB.out hh')
 have HW0:=H_ hw0
 obtain ⟨ma,mc,rfl,hmc,hmm⟩:=hms.shape
 clear hx hms hw0
 have d0:=K1.out.cell 0
 have d1:=K1.out.cell 1
 go_enter Tryz.func34,Tryz.ntmps34
 go_wp2_with (rw [←HW0.out])
 refine (spec_DeskNew _ _ _ _ a b D.first D.goal w0 HX.out.first HX.out.goal (by omega) (by omega) (by omega) (by omega)).mono ?_
 rintro e1 w1 ⟨x0,x1,x2,x3,rfl,ho1,hb1⟩
 rw [deskNew,if_pos hk] at ho1
 obtain ⟨p0,q0,p1,q1,p2,q2,p3,q3,e0,e1,e2,e3⟩:=ho1.open
 change x0=.slice p0 D.first.length q0 at e0
 change x1=.slice p1 D.goal.length q1 at e1
 change x2=.slice p2 0 q2 at e2
 change x3=.slice p3 D.first.length q3 at e3
 subst e0 e1 e2 e3
 have hs1:=hb1.size
 replace HB:=H_ (HB.out.trans (hb1.mono (by omega)))
 replace K1:=H_ (K1.out.below hb1 K1.out.lt)
 replace K2:=H_ (K2.out.below hb1 K2.out.lt)
 replace HX:=H_ (HX.out.below hb1 (by omega))
 replace HMS:=H_ (Sl.below HMS.out hb1 (by omega))
 have HO1:=H_ ho1
 clear hb1 ho1 d0 d1
 have d0:=K1.out.cell 0
 have f0:=K2.out.free 0
 have f1:=K2.out.free 1
 have f2:=K2.out.free 2
 have f3:=K2.out.free 3
 have c0:=K2.out.cell 0
 have c1:=K2.out.cell 1
 have c2:=K2.out.cell 2
 have c3:=K2.out.cell 3
 obtain ⟨wo,hwo⟩:∃ wo,wo=w1.alloc (.cells #[.slice p0 D.first.length q0,.slice p1 D.goal.length q1,.slice p2 0 q2,.slice p3 D.first.length q3] 31):=⟨_,rfl⟩
 have KO:Hid (Blk w1.heap.size (.cells #[.slice p0 D.first.length q0,.slice p1 D.goal.length q1,.slice p2 0 q2,.slice p3 D.first.length q3] 31) wo):=by rw [hwo];exact H_ (Blk.new w1 _)
 have hbo:Below w1.heap.size w1 wo:=by rw [hwo];exact (B_ _ _).alloc (le_ _) _
 have hso:wo.heap.size=w1.heap.size+1:=by rw [hwo];simp
 have HWO:=H_ hwo
 clear hwo
 have OE:Hid (Own 3 (w1.heap.size+1) (w1.heap.size+2) 67 (wo.alloc (.cells #[] 67)) (.slice (some ⟨w1.heap.size+1,0,none⟩) 0 0) 0 []):=by
  have h:=Own.lit 3 67 wo [] 0 (by omega) rfl
  rw [hso] at h
  exact H_ h
 have hbe:Below w1.heap.size w1 (wo.alloc (.cells #[] 67)):=hbo.alloc (by omega) _
 have HME:=H_ (Sl.below HMS.out hbe (by omega))
 have hze:(wo.alloc (.cells #[] 67)).heap.size=w1.heap.size+2:=by simp;omega
 go_wp2_with (at_builtin;go_loud (rw [←HWO.out];refine wpList_app_sl rfl _ _ 29 rfl 67 (.agg #[.int .i64 0,.bool false,.int .i64 0]) 3 24 Tryz.underlying29 info_mv rfl (by decide) (by decide) rfl OE.out rfl HME.out (mvs_one _) (by omega) (by omega) ?_))
 intro v5 w5 ho5 _ hout5 _
 have hs5:=hout5.size
 have KO5:=H_ ((KO.out.below ((B_ wo.heap.size wo).alloc (o:=.cells #[] 67) (le_ _)) KO.out.lt).outside hout5 (by omega))
 have hb5:Below w1.heap.size w1 w5:=Below.outside hbe hout5 (by omega) (by omega)
 have HO5:Hid (OwnM (w1.heap.size+1) w5.heap.size 67 w5 v5 ms):=H_ (by unfold OwnM;simpa using ho5)
 obtain ⟨pa,pc,rfl⟩:=Own.shape ho5
 replace HB:=H_ (HB.out.trans (hb5.mono (by omega)))
 replace K1:=H_ (K1.out.below hb5 K1.out.lt)
 replace K2:=H_ (K2.out.below hb5 K2.out.lt)
 replace HX:=H_ (HX.out.below hb5 (by omega))
 replace HMS:=H_ (Sl.below HMS.out hb5 (by omega))
 replace HO1:=H_ (HO1.out.below hb5 (le_ _))
 clear ho5 hout5 hb5 hbe OE HME d0 f0 f1 f2 f3 c0 c1 c2 c3
 have d0:=K1.out.cell 0
 have f2:=KO5.out.free 2
 have c2:=KO5.out.cell 2
 obtain ⟨w6,hw6⟩:∃ w6,w6=w5.setCell ⟨w1.heap.size,2,none⟩ (.slice pa ms.length pc):=⟨_,rfl⟩
 have KO6:=H_ (show Blk w1.heap.size _ w6 by rw [hw6];exact KO5.out.put 2 (.slice pa ms.length pc))
 have hO6:Outside w1.heap.size (w1.heap.size+1) w5 w6:=by rw [hw6];exact Outside.put w1.heap.size 2 w5 _
 have hs6:=hO6.size
 have HW6:=H_ hw6
 replace HB:=H_ (Below.outside HB.out hO6 (by omega) (by omega))
 replace K1:=H_ (K1.out.outside hO6 (by omega))
 replace K2:=H_ (K2.out.outside hO6 (by omega))
 replace HX:=H_ (HX.out.outside hO6 (.inl (by omega)))
 replace HMS:=H_ (Sl.outside HMS.out hO6 (.inl (by omega)))
 replace HO1:=H_ (HO1.out.outside hO6 (.inl (by omega)))
 replace HO5:=H_ (OwnM.outside HO5.out hO6 (.inr (by omega)))
 clear hw6 hO6
 have d6:=K1.out.cell 0
 go_wp2_with (rw [←HW6.out])
 refine (spec_ProofRun _ _ _ _ a _ D.first ms w6 HX.out.first (by omega) HMS.out hml).mono ?_
 rintro e3 w7 ⟨v7,ok7,rfl,hb7,hok7,ho7⟩
 have hs7:=hb7.size
 obtain ⟨pn,pm,rfl,_⟩:=Own.open ho7
 replace HB:=H_ (HB.out.trans (hb7.mono (by omega)))
 replace K2:=H_ (K2.out.below hb7 K2.out.lt)
 have KO7:=H_ (KO6.out.below hb7 KO6.out.lt)
 replace HO1:=H_ (HO1.out.below hb7 (by omega))
 replace HO5:=H_ (OwnM.below HO5.out hb7 (by omega))
 obtain ⟨w8,hw8⟩:∃ w8,w8=w7.setCell ⟨w1.heap.size,3,none⟩ (.slice pn ((proofV D.first ms).getD []).length pm):=⟨_,rfl⟩
 have KO8:=H_ (show Blk w1.heap.size _ w8 by rw [hw8];exact KO7.out.put 3 (.slice pn ((proofV D.first ms).getD []).length pm))
 have hO8:Outside w1.heap.size (w1.heap.size+1) w7 w8:=by rw [hw8];exact Outside.put w1.heap.size 3 w7 _
 have hs8:=hO8.size
 have HW8:=H_ hw8
 replace HB:=H_ (Below.outside HB.out hO8 (by omega) (by omega))
 replace K2:=H_ (K2.out.outside hO8 (by omega))
 replace HO1:=H_ (HO1.out.outside hO8 (.inl (by omega)))
 replace HO5:=H_ (OwnM.outside HO5.out hO8 (.inr (by omega)))
 have HO7:=H_ (OwnI.outside ho7 hO8 (.inr (by omega)))
 clear hw8 hO8 d0 d6 f2 c2 hb7 ho7
 have f3:=KO7.out.free 3
 have c3:=KO7.out.cell 3
 have o0:=KO8.out.cell 0
 have o1:=KO8.out.cell 1
 have o2:=KO8.out.cell 2
 have o3:=KO8.out.cell 3
 have g0:=K2.out.free 0
 have g1:=K2.out.free 1
 have g2:=K2.out.free 2
 have g3:=K2.out.free 3
 have h0:=K2.out.cell 0
 have h1:=K2.out.cell 1
 have h2:=K2.out.cell 2
 have h3:=K2.out.cell 3
 obtain ⟨wz,hwz⟩:∃ wz,wz=(((w8.setCell ⟨w.heap.size+1,0,none⟩ (.slice p0 D.first.length q0)).setCell ⟨w.heap.size+1,1,none⟩ (.slice p1 D.goal.length q1)).setCell ⟨w.heap.size+1,2,none⟩ (.slice pa ms.length pc)).setCell ⟨w.heap.size+1,3,none⟩ (.slice pn ((proofV D.first ms).getD []).length pm):=⟨_,rfl⟩
 have KZ:=K2.out.set4 (.slice p0 D.first.length q0) (.slice p1 D.goal.length q1) (.slice pa ms.length pc) (.slice pn ((proofV D.first ms).getD []).length pm)
 have hO:=Outside.set4 (w.heap.size+1) w8 (.slice p0 D.first.length q0) (.slice p1 D.goal.length q1) (.slice pa ms.length pc) (.slice pn ((proofV D.first ms).getD []).length pm)
 rw [←hwz] at KZ hO
 have hsz:=hO.size
 have HZ:=H_ (Below.outside HB.out hO (by omega) (by omega))
 have HOZ:=H_ hO
 have r0:=KZ.cell 0
 have r1:=KZ.cell 1
 have r2:=KZ.cell 2
 have r3:=KZ.cell 3
 clear KZ hO
 go_wp2_with (rw [←HW8.out])
 simp only [←hwz]
 clear hwz
 refine bodyPost_ret (v:=aggD (.slice p0 D.first.length q0) (.slice p1 D.goal.length q1) (.slice pa ms.length pc) (.slice pn ((proofV D.first ms).getD []).length pm)) (by simp [results,Tryz.results34,go_sem,r0,r1,r2,r3]) rfl (RetD.mk _ _ _ _ rfl ⟨?_,HZ.out⟩)
 obtain ⟨l1,h1,l2,h2,l3,h3,l4,h4,o1,o2,o3,o4,r1,r2,r3,r4,rest⟩:=HO1.out.outside HOZ.out (.inr (by omega))
 exact ⟨l1,h1,l2,h2,w1.heap.size+1,w5.heap.size,w6.heap.size,w7.heap.size,o1,o2,OwnM.outside HO5.out HOZ.out (.inr (by omega)),OwnI.outside HO7.out HOZ.out (.inr (by omega)),by omega,by omega,by omega,by omega,rest.1,.inl (by omega),.inl (by omega),.inl (by omega),.inl (by omega),.inl (by omega)⟩
theorem proofV_iff {e x:List Int} {ms:List Mv}:proofV e ms=some x↔katV e=true∧ms.length≤60∧runM e ms=some x:=by
 unfold proofV
 constructor
 ·intro h
  split at h
  ·rename_i hc
   simp only [Bool.and_eq_true,decide_eq_true_eq] at hc
   exact ⟨hc.1,hc.2,h⟩
  ·cases h
 ·rintro ⟨h1,h2,h3⟩
  simp [h1,h2,h3]
theorem proofV_more {e x:List Int} {a:List Mv} (h:proofV e a=some x) (b:List Mv):proofV e (a++b)=if (a++b).length≤60 then runM x b else none:=by
 obtain ⟨h1,h2,h3⟩:=proofV_iff.1 h
 unfold proofV
 rw [h1,runM_append,h3]
 simp
theorem proofV_front {e x:List Int} {a:List Mv} (h:proofV e a=some x) (k:Nat):∃ y,proofV e (a.take k)=some y:=by
 obtain ⟨h1,h2,h3⟩:=proofV_iff.1 h
 have h4:=runM_append (a.take k) (a.drop k) e
 rw [List.take_append_drop,h3] at h4
 cases h5:runM e (a.take k) with
 | none=>rw [h5] at h4;cases h4
 | some y=>exact ⟨y,proofV_iff.2 ⟨h1,by simp;omega,h5⟩⟩
theorem simpBy_run {e:List Int} (h:katV e=true):∃ y,runM e (simpBy e)=some y:=by
 obtain ⟨_,_,h3⟩:=proofV_iff.1 (proofV_simpM h)
 exact ⟨_,by rw [simpBy,if_pos h];exact h3⟩
theorem deskV_parts {D:Dsk} (h:deskV D=true):katV D.first=true∧katV D.goal=true∧katV D.now=true∧D.made.length≤60∧proofV D.first D.made=some D.now:=by
 unfold deskV at h
 cases hp:proofV D.first D.made with
 | none=>rw [hp] at h;cases h
 | some x=>
  rw [hp] at h
  simp only [Bool.and_eq_true] at h
  have h2:x=D.now:=by simpa [eqL] using h.2
  subst h2
  obtain ⟨h3,h4,_⟩:=proofV_iff.1 hp
  exact ⟨h3,h.1,proofV_kat hp,h4,rfl⟩
def deskTo (D:Dsk) (r:Option (List Mv)):Dsk × Bool:=
 match r with
 | some ms=>if ms.length>60∨ms.length=D.made.length then (D,false) else (⟨D.first,D.goal,ms,(proofV D.first ms).getD []⟩,true)
 | none=>(D,false)
def madeS (D:Dsk) (a:Ac):Option (List Mv):=
 if namedB a then
  if a.kind=0∧(moveV D.now a.step).isSome then some (D.made++[a.step])
  else if a.kind=1∧1≤a.count∧a.count≤D.made.length then some (D.made.take (D.made.length-a.count.toNat))
  else if a.kind=2 then some (D.made++simpBy D.now)
  else none
 else none
theorem deskDo_said {D:Dsk} {a:Ac} (h:deskV D=true):deskDo D a=deskTo D (madeS D a):=by
 obtain ⟨k1,k2,k3,hl,hp⟩:=deskV_parts h
 unfold deskDo
 rw [if_pos h]
 cases hn:namedB a
 ·simp [madeV,madeS,hn,deskTo]
 ·rcases named_kinds hn with hk|hk|hk
  ·have e1:madeV D a=some (D.made++[a.step]):=by simp [madeV,hn,hk]
   have e2:=proofV_more hp [a.step]
   have e3:runM D.now [a.step]=moveV D.now a.step:=by simp [runM]
   rw [e3] at e2
   rw [e1]
   cases hm:moveV D.now a.step with
   | none=>rw [hm] at e2;simp [madeS,hn,hk,hm,deskTo,e2]
   | some x=>
    rw [hm] at e2
    by_cases h6:(D.made++[a.step]).length≤60
    ·rw [if_pos h6] at e2
     have:¬((D.made++[a.step]).length>60∨(D.made++[a.step]).length=D.made.length):=by simp at h6 ⊢;omega
     simp only [madeS,hn,hk,hm,deskTo,e2,if_neg this,if_true,Option.bind_some,Option.map_some,Option.isSome_some,and_self,Option.getD_some]
    ·rw [if_neg h6] at e2
     have:(D.made++[a.step]).length>60∨(D.made++[a.step]).length=D.made.length:=by omega
     simp only [madeS,hn,hk,hm,deskTo,e2,if_pos this,if_true,Option.bind_some,Option.map_none,Option.isSome_some,and_self]
  ·by_cases hc:1≤a.count∧a.count≤D.made.length
   ·have e1:madeV D a=some (D.made.take (D.made.length-a.count.toNat)):=by simp [madeV,hn,hk,hc]
    obtain ⟨y,e2⟩:=proofV_front hp (D.made.length-a.count.toNat)
    rw [e1]
    simp [madeS,hn,hk,hc,deskTo,e2]
    omega
   ·have e1:madeV D a=none:=by simp only [madeV,hn,hk];simp [hc]
    have e2:madeS D a=none:=by simp only [madeS,hn,hk];simp [hc]
    rw [e1,e2];rfl
  ·obtain ⟨y,e4⟩:=simpBy_run k3
   have e2:=proofV_more hp (simpBy D.now)
   rw [e4] at e2
   have e3:madeS D a=some (D.made++simpBy D.now):=by simp [madeS,hn,hk]
   rw [e3]
   by_cases hs:simpBy D.now=[]
   ·have e1:madeV D a=none:=by simp [madeV,hn,hk,hs]
    rw [e1];simp [deskTo,hs]
   ·have hpos:0<(simpBy D.now).length:=List.length_pos_iff.2 hs
    have e1:madeV D a=some (D.made++simpBy D.now):=by simp [madeV,hn,hk,hs]
    rw [e1]
    by_cases h6:(D.made++simpBy D.now).length≤60
    ·rw [if_pos h6] at e2
     have:¬((D.made++simpBy D.now).length>60∨(D.made++simpBy D.now).length=D.made.length):=by simp only [List.length_append] at h6 ⊢;omega
     simp only [deskTo,e2,if_neg this,Option.bind_some,Option.map_some,Option.getD_some]
    ·rw [if_neg h6] at e2
     have:(D.made++simpBy D.now).length>60∨(D.made++simpBy D.now).length=D.made.length:=by omega
     simp only [deskTo,e2,if_pos this,Option.bind_some,Option.map_none]
theorem deskV_kat {D:Dsk} (h:deskV D=true):(katV D.first&&katV D.goal)=true∧proofV D.first D.made=some D.now:=by
 unfold deskV at h
 cases hp:proofV D.first D.made with
 | none=>rw [hp] at h;cases h
 | some x=>
  rw [hp] at h
  simp only [Bool.and_eq_true] at h
  have h1:katV D.first=true:=by
   unfold proofV at hp
   split at hp
   ·rename_i h2;simp at h2;exact h2.1
   ·cases hp
  have h2:x=D.now:=by simpa [eqL] using h.2
  exact ⟨by rw [h1,h.1];rfl,by rw [h2]⟩
theorem spec_DeskDo (lo hi:Nat) (a b c d:Value) (D:Dsk) (A:Ac) (w:World) (hx:DeskAt lo hi w a b c d D) (hh:hi≤w.heap.size) (hm:D.size≤1048576) :
  Calls Tryz.prog 52 #[aggD a b c d,aggA A] w (DoneR w (deskDo D A)):=by
 have HM:=H_ hm
 unfold Dsk.size at hm
 obtain ⟨w0,hw0⟩:∃ w0,w0=((w.alloc (.cells #[a,b,c,d] 31)).alloc (.cells #[.int .i64 A.kind,.int .i64 A.step.which,.bool A.step.back,.int .i64 A.step.at_,.int .i64 A.count] 69)).alloc (.cells #[.slice none 0 0,.slice none 0 0,.slice none 0 0,.slice none 0 0] 31):=⟨_,rfl⟩
 have hb0:Below w.heap.size w w0:=by rw [hw0];exact (((B_ _ _).alloc (le_ _) _).alloc (by simp) _).alloc (by simp;omega) _
 have hs0:w0.heap.size=w.heap.size+3:=by rw [hw0];simp
 have K1:Hid (Blk w.heap.size (.cells #[a,b,c,d] 31) w0):=by
  rw [hw0]
  exact H_ (((Blk.new w _).below ((B_ (w.alloc _).heap.size _).alloc (le_ _) _) (by simp)).below ((B_ ((w.alloc _).alloc _).heap.size _).alloc (le_ _) _) (by simp;omega))
 have K2:Hid (Blk (w.heap.size+1) (.cells #[.int .i64 A.kind,.int .i64 A.step.which,.bool A.step.back,.int .i64 A.step.at_,.int .i64 A.count] 69) w0):=by
  have h:=(Blk.new (w.alloc (.cells #[a,b,c,d] 31)) (.cells #[.int .i64 A.kind,.int .i64 A.step.which,.bool A.step.back,.int .i64 A.step.at_,.int .i64 A.count] 69)).below ((B_ ((w.alloc (.cells #[a,b,c,d] 31)).alloc (.cells #[.int .i64 A.kind,.int .i64 A.step.which,.bool A.step.back,.int .i64 A.step.at_,.int .i64 A.count] 69)).heap.size _).alloc (o:=(.cells #[.slice none 0 0,.slice none 0 0,.slice none 0 0,.slice none 0 0] 31)) (le_ _)) (by simp)
  rw [alloc_size] at h
  rw [hw0];exact H_ h
 have K3:Hid (Blk (w.heap.size+1+1) (.cells #[.slice none 0 0,.slice none 0 0,.slice none 0 0,.slice none 0 0] 31) w0):=by
  have h:=Blk.new ((w.alloc (.cells #[a,b,c,d] 31)).alloc (.cells #[.int .i64 A.kind,.int .i64 A.step.which,.bool A.step.back,.int .i64 A.step.at_,.int .i64 A.count] 69)) (.cells #[.slice none 0 0,.slice none 0 0,.slice none 0 0,.slice none 0 0] 31)
  rw [alloc_size,alloc_size] at h
  rw [hw0];exact H_ h
 have HX:=H_ (hx.below hb0 hh)
 have HB:=H_ hb0
 have HW0:=H_ hw0
 clear hx hb0 hw0
 obtain ⟨dv,hdv⟩:∃ dv,dv=deskV D:=⟨_,rfl⟩
 have HDV:=H_ hdv
 clear hdv
 have d0:=K1.out.cell 0
 have d1:=K1.out.cell 1
 have d2:=K1.out.cell 2
 have d3:=K1.out.cell 3
 have a0:=K2.out.cell 0
 have a1:=K2.out.cell 1
 have a2:=K2.out.cell 2
 have a3:=K2.out.cell 3
 have a4:=K2.out.cell 4
 go_enter Tryz.func52,Tryz.ntmps52
 go_wp2_with (rw [←HW0.out])
 refine (spec_DeskValid _ _ a b c d D w0 HX.out (by omega) HM.out).mono ?_
 rintro e1 w1 ⟨rfl,hb1⟩
 rw [←HDV.out]
 have hs1:=hb1.size
 replace HB:=H_ (HB.out.trans (hb1.mono (by omega)))
 replace K1:=H_ (K1.out.below hb1 K1.out.lt)
 replace K2:=H_ (K2.out.below hb1 K2.out.lt)
 replace K3:=H_ (K3.out.below hb1 K3.out.lt)
 replace HX:=H_ (HX.out.below hb1 (by omega))
 clear hb1 d0 d1 d2 d3 a0 a1 a2 a3 a4
 have d0:=K1.out.cell 0
 have d1:=K1.out.cell 1
 have d2:=K1.out.cell 2
 have d3:=K1.out.cell 3
 have a0:=K2.out.cell 0
 have a1:=K2.out.cell 1
 have a2:=K2.out.cell 2
 have a3:=K2.out.cell 3
 have a4:=K2.out.cell 4
 cases dv
 ·have HD:=H_ (show deskDo D A=(Dsk.none,false) by simp [deskDo,←HDV.out])
  have f0:=K3.out.free 0
  have f1:=K3.out.free 1
  have f2:=K3.out.free 2
  have f3:=K3.out.free 3
  have c0:=K3.out.cell 0
  have c1:=K3.out.cell 1
  have c2:=K3.out.cell 2
  have c3:=K3.out.cell 3
  obtain ⟨wz,hwz⟩:∃ wz,wz=(((w1.setCell ⟨w.heap.size+1+1,0,none⟩ (.slice none 0 0)).setCell ⟨w.heap.size+1+1,1,none⟩ (.slice none 0 0)).setCell ⟨w.heap.size+1+1,2,none⟩ (.slice none 0 0)).setCell ⟨w.heap.size+1+1,3,none⟩ (.slice none 0 0):=⟨_,rfl⟩
  have KZ:=K3.out.set4 (.slice none 0 0) (.slice none 0 0) (.slice none 0 0) (.slice none 0 0)
  have hO:=Outside.set4 (w.heap.size+1+1) w1 (.slice none 0 0) (.slice none 0 0) (.slice none 0 0) (.slice none 0 0)
  rw [←hwz] at KZ hO
  have hsz:=hO.size
  have HZ:=H_ (Below.outside HB.out hO (by omega) (by omega))
  have HOZ:=H_ hO
  have q0:=KZ.cell 0
  have q1:=KZ.cell 1
  have q2:=KZ.cell 2
  have q3:=KZ.cell 3
  clear KZ hO
  go_wp2
  simp only [←hwz]
  clear hwz
  refine bodyPost_ret (v:=.tuple #[aggD (.slice none 0 0) (.slice none 0 0) (.slice none 0 0) (.slice none 0 0),.bool false]) (by simp [results,Tryz.results52,go_sem,q0,q1,q2,q3]) rfl (RetDB.mk _ _ _ _ _ rfl ⟨?_,?_,HZ.out⟩)
  ·rw [HD.out]
   exact DeskOwn.nils _ _ HZ.out.size _
  ·rw [HD.out]
 ·obtain ⟨hk,hp0⟩:=deskV_kat HDV.out.symm
  have HP0:=H_ hp0
  have HK:=H_ hk
  clear hk hp0
  go_wp2_with fail
  refine (spec_l10With _ _ _ _ a b c d c D D.made w1 HX.out (by omega) HM.out HX.out.made (by omega) (by omega) HK.out).mono ?_
  rintro e2 w2 ⟨z0,z1,z2,z3,rfl,ho2,hb2⟩
  rw [HP0.out] at ho2
  obtain ⟨x0,y0,x1,y1,x2,y2,x3,y3,e0,e1,e2,e3⟩:=ho2.open
  change z0=.slice x0 D.first.length y0 at e0
  change z1=.slice x1 D.goal.length y1 at e1
  change z2=.slice x2 D.made.length y2 at e2
  change z3=.slice x3 D.now.length y3 at e3
  subst e0 e1 e2 e3
  have hs2:=hb2.size
  replace HB:=H_ (HB.out.trans (hb2.mono (by omega)))
  replace K1:=H_ (K1.out.below hb2 K1.out.lt)
  replace K2:=H_ (K2.out.below hb2 K2.out.lt)
  replace K3:=H_ (K3.out.below hb2 K3.out.lt)
  replace HX:=H_ (HX.out.below hb2 (by omega))
  have HO2:Hid (DeskOwn w1.heap.size w2.heap.size w2 (.slice x0 D.first.length y0) (.slice x1 D.goal.length y1) (.slice x2 D.made.length y2) (.slice x3 D.now.length y3) D):=H_ ho2
  clear hb2 ho2 d0 d1 d2 d3 a0 a1 a2 a3 a4
  obtain ⟨wo,hwo⟩:∃ wo,wo=w2.alloc (.cells #[.slice x0 D.first.length y0,.slice x1 D.goal.length y1,.slice x2 D.made.length y2,.slice x3 D.now.length y3] 31):=⟨_,rfl⟩
  have KO:Hid (Blk w2.heap.size (.cells #[.slice x0 D.first.length y0,.slice x1 D.goal.length y1,.slice x2 D.made.length y2,.slice x3 D.now.length y3] 31) wo):=by rw [hwo];exact H_ (Blk.new w2 _)
  have hbo:Below w2.heap.size w2 wo:=by rw [hwo];exact (B_ _ _).alloc (le_ _) _
  have hso:wo.heap.size=w2.heap.size+1:=by rw [hwo];simp
  have HWO:=H_ hwo
  replace HB:=H_ (HB.out.trans (hbo.mono (by omega)))
  replace K1:=H_ (K1.out.below hbo K1.out.lt)
  replace K2:=H_ (K2.out.below hbo K2.out.lt)
  replace K3:=H_ (K3.out.below hbo K3.out.lt)
  replace HX:=H_ (HX.out.below hbo (by omega))
  replace HO2:=H_ (HO2.out.below hbo (le_ _))
  clear hwo hbo
  have d2:=K1.out.cell 2
  have d3:=K1.out.cell 3
  have a1:=K2.out.cell 1
  have a2:=K2.out.cell 2
  have a3:=K2.out.cell 3
  go_wp2_with (rw [←HWO.out])
  refine (spec_MoveDo d D.now A.step wo (SlI.rd HX.out.now (by omega)) (by omega)).mono ?_
  rintro e3 w3 ⟨v3,can,rfl,hb3,hcan,ho3⟩
  have hs3:=hb3.size
  replace HB:=H_ (HB.out.trans (hb3.mono (by omega)))
  replace K1:=H_ (K1.out.below hb3 K1.out.lt)
  replace K2:=H_ (K2.out.below hb3 K2.out.lt)
  replace K3:=H_ (K3.out.below hb3 K3.out.lt)
  replace KO:=H_ (KO.out.below hb3 KO.out.lt)
  replace HX:=H_ (HX.out.below hb3 (by omega))
  replace HO2:=H_ (HO2.out.below hb3 (by omega))
  have HCAN:=H_ hcan
  obtain ⟨xm,ym,rfl,_⟩:=Own.open ho3
  clear hb3 ho3 hcan d2 d3 a1 a2 a3
  have d2:=K1.out.cell 2
  obtain ⟨ma,mc,hce,hmc1,hmc2⟩:=HX.out.made.shape
  unfold maxLen at hmc2
  subst hce
  have OE:Hid (Own 3 w3.heap.size (w3.heap.size+1) 67 (w3.alloc (.cells #[] 67)) (.slice (some ⟨w3.heap.size,0,none⟩) 0 0) 0 []):=H_ (Own.lit 3 67 w3 [] 0 (by omega) rfl)
  have hbe:Below w3.heap.size w3 (w3.alloc (.cells #[] 67)):=(B_ _ _).alloc (le_ _) _
  have d2e:=(K1.out.below hbe K1.out.lt).cell 2
  have HME:=H_ (Sl.below HX.out.made hbe (by omega))
  have hze:(w3.alloc (.cells #[] 67)).heap.size=w3.heap.size+1:=by simp
  go_wp2_with (at_builtin;go_loud (refine wpList_app_sl rfl _ _ 29 rfl 67 (.agg #[.int .i64 0,.bool false,.int .i64 0]) 3 24 Tryz.underlying29 info_mv rfl (by decide) (by decide) rfl OE.out rfl HME.out (mvs_one _) (by omega) (by omega) ?_))
  intro v5 w5 ho5 _ hout5 _
  have hs5:=hout5.size
  have hb5:Below w3.heap.size w3 w5:=Below.outside hbe hout5 (le_ _) (by omega)
  have HO5:Hid (OwnM w3.heap.size w5.heap.size 67 w5 v5 D.made):=H_ (by unfold OwnM;simpa using ho5)
  obtain ⟨pa,pc,rfl,hpc1,hpc2⟩:=(OwnM.sl HO5.out).shape
  unfold maxLen at hpc2
  replace HB:=H_ (HB.out.trans (hb5.mono (by omega)))
  replace K1:=H_ (K1.out.below hb5 K1.out.lt)
  replace K2:=H_ (K2.out.below hb5 K2.out.lt)
  replace K3:=H_ (K3.out.below hb5 K3.out.lt)
  replace KO:=H_ (KO.out.below hb5 KO.out.lt)
  replace HX:=H_ (HX.out.below hb5 (by omega))
  replace HO2:=H_ (HO2.out.below hb5 (by omega))
  clear ho5 hout5 hb5 hbe OE HME d2 d2e
  have a0:=K2.out.cell 0
  have a1:=K2.out.cell 1
  have a2:=K2.out.cell 2
  have a3:=K2.out.cell 3
  have a4:=K2.out.cell 4
  obtain ⟨nb,hnb⟩:∃ nb,nb=namedB A:=⟨_,rfl⟩
  have HNB:=H_ hnb
  clear hnb
  go_wp2_with fail
  refine (l10Named_any A w5).mono ?_
  rintro e6 w6 ⟨rfl,hb6⟩
  rw [←HNB.out]
  have hs6:=hb6.size
  replace HB:=H_ (HB.out.trans (hb6.mono (by omega)))
  replace K1:=H_ (K1.out.below hb6 K1.out.lt)
  replace K2:=H_ (K2.out.below hb6 K2.out.lt)
  replace K3:=H_ (K3.out.below hb6 K3.out.lt)
  replace KO:=H_ (KO.out.below hb6 KO.out.lt)
  replace HX:=H_ (HX.out.below hb6 (by omega))
  replace HO2:=H_ (HO2.out.below hb6 (by omega))
  replace HO5:=H_ (OwnM.below HO5.out hb6 (le_ _))
  clear hb6 a0 a1 a2 a3 a4
  cases nb
  ·have HD:=H_ (show deskDo D A=(D,false) by simp [deskDo_said HDV.out.symm,madeS,←HNB.out,deskTo])
   have o0:=KO.out.cell 0
   have o1:=KO.out.cell 1
   have o2:=KO.out.cell 2
   have o3:=KO.out.cell 3
   have f0:=K3.out.free 0
   have f1:=K3.out.free 1
   have f2:=K3.out.free 2
   have f3:=K3.out.free 3
   have c0:=K3.out.cell 0
   have c1:=K3.out.cell 1
   have c2:=K3.out.cell 2
   have c3:=K3.out.cell 3
   obtain ⟨wz,hwz⟩:∃ wz,wz=(((w6.setCell ⟨w.heap.size+1+1,0,none⟩ (.slice x0 D.first.length y0)).setCell ⟨w.heap.size+1+1,1,none⟩ (.slice x1 D.goal.length y1)).setCell ⟨w.heap.size+1+1,2,none⟩ (.slice x2 D.made.length y2)).setCell ⟨w.heap.size+1+1,3,none⟩ (.slice x3 D.now.length y3):=⟨_,rfl⟩
   have KZ:=K3.out.set4 (.slice x0 D.first.length y0) (.slice x1 D.goal.length y1) (.slice x2 D.made.length y2) (.slice x3 D.now.length y3)
   have hO:=Outside.set4 (w.heap.size+1+1) w6 (.slice x0 D.first.length y0) (.slice x1 D.goal.length y1) (.slice x2 D.made.length y2) (.slice x3 D.now.length y3)
   rw [←hwz] at KZ hO
   have hsz:=hO.size
   have HZ:=H_ (Below.outside HB.out hO (by omega) (by omega))
   have HOZ:=H_ hO
   have q0:=KZ.cell 0
   have q1:=KZ.cell 1
   have q2:=KZ.cell 2
   have q3:=KZ.cell 3
   clear KZ hO
   go_wp2
   simp only [←hwz]
   clear hwz
   refine bodyPost_ret (v:=.tuple #[aggD (.slice x0 D.first.length y0) (.slice x1 D.goal.length y1) (.slice x2 D.made.length y2) (.slice x3 D.now.length y3),.bool false]) (by simp [results,Tryz.results52,go_sem,q0,q1,q2,q3]) rfl (RetDB.mk _ _ _ _ _ rfl ⟨?_,?_,HZ.out⟩)
   ·rw [HD.out]
    exact (HO2.out.outside HOZ.out (.inr (by omega))).wide (by omega) (by omega)
   ·rw [HD.out]
  have a0:=K2.out.cell 0
  have hm60:D.made.length≤60:=(deskV_parts HDV.out.symm).2.2.2.1
  have hl1:=K1.out.lt
  have hl2:=K2.out.lt
  have hl3:=K3.out.lt
  have hlo:=KO.out.lt
  rcases named_kinds HNB.out.symm with hk|hk|hk
  ·rw [hk] at a0
   cases can
   ·have HD:=H_ (show deskDo D A=(D,false) by
     have h1:(moveV D.now A.step).isSome=false:=HCAN.out.symm
     simp [deskDo_said HDV.out.symm,madeS,←HNB.out,hk,h1,deskTo])
    clear hk
    have o0:=KO.out.cell 0
    have o1:=KO.out.cell 1
    have o2:=KO.out.cell 2
    have o3:=KO.out.cell 3
    have f0:=K3.out.free 0
    have f1:=K3.out.free 1
    have f2:=K3.out.free 2
    have f3:=K3.out.free 3
    have c0:=K3.out.cell 0
    have c1:=K3.out.cell 1
    have c2:=K3.out.cell 2
    have c3:=K3.out.cell 3
    obtain ⟨wz,hwz⟩:∃ wz,wz=(((w6.setCell ⟨w.heap.size+1+1,0,none⟩ (.slice x0 D.first.length y0)).setCell ⟨w.heap.size+1+1,1,none⟩ (.slice x1 D.goal.length y1)).setCell ⟨w.heap.size+1+1,2,none⟩ (.slice x2 D.made.length y2)).setCell ⟨w.heap.size+1+1,3,none⟩ (.slice x3 D.now.length y3):=⟨_,rfl⟩
    have KZ:=K3.out.set4 (.slice x0 D.first.length y0) (.slice x1 D.goal.length y1) (.slice x2 D.made.length y2) (.slice x3 D.now.length y3)
    have hO:=Outside.set4 (w.heap.size+1+1) w6 (.slice x0 D.first.length y0) (.slice x1 D.goal.length y1) (.slice x2 D.made.length y2) (.slice x3 D.now.length y3)
    rw [←hwz] at KZ hO
    have hsz:=hO.size
    have HZ:=H_ (Below.outside HB.out hO (by omega) (by omega))
    have HOZ:=H_ hO
    have q0:=KZ.cell 0
    have q1:=KZ.cell 1
    have q2:=KZ.cell 2
    have q3:=KZ.cell 3
    clear KZ hO
    go_wp2
    simp only [←hwz]
    clear hwz
    refine bodyPost_ret (v:=.tuple #[aggD (.slice x0 D.first.length y0) (.slice x1 D.goal.length y1) (.slice x2 D.made.length y2) (.slice x3 D.now.length y3),.bool false]) (by simp [results,Tryz.results52,go_sem,q0,q1,q2,q3]) rfl (RetDB.mk _ _ _ _ _ rfl ⟨?_,?_,HZ.out⟩)
    ·rw [HD.out]
     exact (HO2.out.outside HOZ.out (.inr (by omega))).wide (by omega) (by omega)
    ·rw [HD.out]
   ·have HR:=H_ (show some (D.made++[A.step])=madeS D A by
     have h1:(moveV D.now A.step).isSome=true:=HCAN.out.symm
     simp [madeS,←HNB.out,hk,h1])
    clear hk
    have a1:=K2.out.cell 1
    have a2:=K2.out.cell 2
    have a3:=K2.out.cell 3
    go_wp2_with (at_builtin;go_loud (refine wpList_app_lit w6 rfl _ _ 29 rfl 67 (.agg #[.int .i64 0,.bool false,.int .i64 0]) 3 24 Tryz.underlying29 info_mv rfl (by decide) (by decide) rfl HO5.out 1 (encMv A.step) rfl rfl (encMv_one A.step) rfl (by omega) (by omega) ?_))
    intro v7 w7 ho7 hout7 _
    have hs7:=hout7.size
    have hb7:Below w3.heap.size w6 w7:=Below.outside ((B_ w6.heap.size w6).mono (by omega)) hout7 (le_ _) (by omega)
    have hm7:SlM w3.heap.size w7.heap.size w7 v7 (D.made++[A.step]):=by unfold SlM;rw [List.length_append,mvs_append];exact Own.sl ho7
    obtain ⟨qa,qc,hv⟩:=Own.shape ho7
    obtain ⟨ml,hml⟩:∃ ml,ml=D.made.length+1:=⟨_,rfl⟩
    rw [←hml] at hv
    subst hv
    obtain ⟨ms,hms⟩:∃ ms,ms=D.made++[A.step]:=⟨_,rfl⟩
    have HLEN:Hid (ms.length=ml):=H_ (by rw [hms,hml];simp)
    rw [←hms] at HR hm7
    have HMS:=H_ hm7
    have HL:Hid (w7.heap.size≤w7.heap.size):=H_ (le_ _)
    have hmb:ml≤1048576:=by omega
    clear a0 a1 a2 a3
    replace HB:=H_ (HB.out.trans (hb7.mono (by omega)))
    replace K1:=H_ (K1.out.below hb7 (by omega))
    replace K2:=H_ (K2.out.below hb7 (by omega))
    replace K3:=H_ (K3.out.below hb7 (by omega))
    replace KO:=H_ (KO.out.below hb7 (by omega))
    replace HX:=H_ (HX.out.below hb7 (by omega))
    replace HO2:=H_ (HO2.out.below hb7 (by omega))
    clear hb7 hout7 ho7 hm7 hms hml
    by_cases hq:ml>60∨ml=D.made.length
    ·have HD:=H_ (show deskDo D A=(D,false) by rw [deskDo_said HDV.out.symm,←HR.out];simp only [deskTo,HLEN.out];rw [if_pos hq])
     have d2:=K1.out.cell 2
     by_cases h6:60<ml
     ·have h6':(60:Int)<(ml:Int):=by omega
      clear hq
      have o0:=KO.out.cell 0
      have o1:=KO.out.cell 1
      have o2:=KO.out.cell 2
      have o3:=KO.out.cell 3
      have f0:=K3.out.free 0
      have f1:=K3.out.free 1
      have f2:=K3.out.free 2
      have f3:=K3.out.free 3
      have c0:=K3.out.cell 0
      have c1:=K3.out.cell 1
      have c2:=K3.out.cell 2
      have c3:=K3.out.cell 3
      obtain ⟨wz,hwz⟩:∃ wz,wz=(((w7.setCell ⟨w.heap.size+1+1,0,none⟩ (.slice x0 D.first.length y0)).setCell ⟨w.heap.size+1+1,1,none⟩ (.slice x1 D.goal.length y1)).setCell ⟨w.heap.size+1+1,2,none⟩ (.slice x2 D.made.length y2)).setCell ⟨w.heap.size+1+1,3,none⟩ (.slice x3 D.now.length y3):=⟨_,rfl⟩
      have KZ:=K3.out.set4 (.slice x0 D.first.length y0) (.slice x1 D.goal.length y1) (.slice x2 D.made.length y2) (.slice x3 D.now.length y3)
      have hO:=Outside.set4 (w.heap.size+1+1) w7 (.slice x0 D.first.length y0) (.slice x1 D.goal.length y1) (.slice x2 D.made.length y2) (.slice x3 D.now.length y3)
      rw [←hwz] at KZ hO
      have hsz:=hO.size
      have HZ:=H_ (Below.outside HB.out hO (by omega) (by omega))
      have HOZ:=H_ hO
      have q0:=KZ.cell 0
      have q1:=KZ.cell 1
      have q2:=KZ.cell 2
      have q3:=KZ.cell 3
      clear KZ hO
      go_wp2
      simp only [←hwz]
      clear hwz
      refine bodyPost_ret (v:=.tuple #[aggD (.slice x0 D.first.length y0) (.slice x1 D.goal.length y1) (.slice x2 D.made.length y2) (.slice x3 D.now.length y3),.bool false]) (by simp [results,Tryz.results52,go_sem,q0,q1,q2,q3]) rfl (RetDB.mk _ _ _ _ _ rfl ⟨?_,?_,HZ.out⟩)
      ·rw [HD.out]
       exact (HO2.out.outside HOZ.out (.inr (by omega))).wide (by omega) (by omega)
      ·rw [HD.out]
     ·have h7:ml=D.made.length:=by omega
      have h7':(ml:Int)=(D.made.length:Int):=by omega
      have h6':¬(60:Int)<(ml:Int):=by omega
      clear hq h7
      have o0:=KO.out.cell 0
      have o1:=KO.out.cell 1
      have o2:=KO.out.cell 2
      have o3:=KO.out.cell 3
      have f0:=K3.out.free 0
      have f1:=K3.out.free 1
      have f2:=K3.out.free 2
      have f3:=K3.out.free 3
      have c0:=K3.out.cell 0
      have c1:=K3.out.cell 1
      have c2:=K3.out.cell 2
      have c3:=K3.out.cell 3
      obtain ⟨wz,hwz⟩:∃ wz,wz=(((w7.setCell ⟨w.heap.size+1+1,0,none⟩ (.slice x0 D.first.length y0)).setCell ⟨w.heap.size+1+1,1,none⟩ (.slice x1 D.goal.length y1)).setCell ⟨w.heap.size+1+1,2,none⟩ (.slice x2 D.made.length y2)).setCell ⟨w.heap.size+1+1,3,none⟩ (.slice x3 D.now.length y3):=⟨_,rfl⟩
      have KZ:=K3.out.set4 (.slice x0 D.first.length y0) (.slice x1 D.goal.length y1) (.slice x2 D.made.length y2) (.slice x3 D.now.length y3)
      have hO:=Outside.set4 (w.heap.size+1+1) w7 (.slice x0 D.first.length y0) (.slice x1 D.goal.length y1) (.slice x2 D.made.length y2) (.slice x3 D.now.length y3)
      rw [←hwz] at KZ hO
      have hsz:=hO.size
      have HZ:=H_ (Below.outside HB.out hO (by omega) (by omega))
      have HOZ:=H_ hO
      have q0:=KZ.cell 0
      have q1:=KZ.cell 1
      have q2:=KZ.cell 2
      have q3:=KZ.cell 3
      clear KZ hO
      go_wp2
      simp only [←hwz]
      clear hwz
      refine bodyPost_ret (v:=.tuple #[aggD (.slice x0 D.first.length y0) (.slice x1 D.goal.length y1) (.slice x2 D.made.length y2) (.slice x3 D.now.length y3),.bool false]) (by simp [results,Tryz.results52,go_sem,q0,q1,q2,q3]) rfl (RetDB.mk _ _ _ _ _ rfl ⟨?_,?_,HZ.out⟩)
      ·rw [HD.out]
       exact (HO2.out.outside HOZ.out (.inr (by omega))).wide (by omega) (by omega)
      ·rw [HD.out]
    ·have HQ:=H_ hq
     have h6:¬60<ml:=by omega
     have h6':¬(60:Int)<(ml:Int):=by omega
     have h7:¬ml=D.made.length:=by omega
     have h7':¬(ml:Int)=(D.made.length:Int):=by omega
     clear hq
     have HD:=H_ (show deskDo D A=(⟨D.first,D.goal,ms,(proofV D.first ms).getD []⟩,true) by rw [deskDo_said HDV.out.symm,←HR.out];simp only [deskTo,HLEN.out];rw [if_neg HQ.out])
     obtain ⟨nw,hnw⟩:∃ nw,nw=(proofV D.first ms).getD []:=⟨_,rfl⟩
     rw [←hnw] at HD
     have HNW:=H_ hnw
     clear hnw
     have d0:=K1.out.cell 0
     have d1:=K1.out.cell 1
     have d2:=K1.out.cell 2
     have d3:=K1.out.cell 3
     go_wp2_with fail
     refine (spec_l10With _ _ _ _ a b _ d _ D ms w7 HX.out (by omega) HM.out HMS.out HL.out (by rw [HLEN.out];omega) HK.out).mono ?_
     rintro e9 w9 ⟨z0,z1,z2,z3,rfl,ho9,hb9⟩
     rw [←HNW.out] at ho9
     obtain ⟨u0,t0,u1,t1,u2,t2,u3,t3,e0,e1,e2,e3⟩:=ho9.open
     change z0=.slice u0 D.first.length t0 at e0
     change z1=.slice u1 D.goal.length t1 at e1
     change z2=.slice u2 ms.length t2 at e2
     change z3=.slice u3 nw.length t3 at e3
     rw [HLEN.out] at e2
     subst e0 e1 e2 e3
     have HO9:=H_ ho9
     have hs9:=hb9.size
     replace HB:=H_ (HB.out.trans (hb9.mono (by omega)))
     replace K3:=H_ (K3.out.below hb9 (by omega))
     clear hb9 ho9 d0 d1 d2 d3
     have f0:=K3.out.free 0
     have f1:=K3.out.free 1
     have f2:=K3.out.free 2
     have f3:=K3.out.free 3
     have c0:=K3.out.cell 0
     have c1:=K3.out.cell 1
     have c2:=K3.out.cell 2
     have c3:=K3.out.cell 3
     obtain ⟨wz,hwz⟩:∃ wz,wz=(((w9.setCell ⟨w.heap.size+1+1,0,none⟩ (.slice u0 D.first.length t0)).setCell ⟨w.heap.size+1+1,1,none⟩ (.slice u1 D.goal.length t1)).setCell ⟨w.heap.size+1+1,2,none⟩ (.slice u2 ml t2)).setCell ⟨w.heap.size+1+1,3,none⟩ (.slice u3 nw.length t3):=⟨_,rfl⟩
     have KZ:=K3.out.set4 (.slice u0 D.first.length t0) (.slice u1 D.goal.length t1) (.slice u2 ml t2) (.slice u3 nw.length t3)
     have hO:=Outside.set4 (w.heap.size+1+1) w9 (.slice u0 D.first.length t0) (.slice u1 D.goal.length t1) (.slice u2 ml t2) (.slice u3 nw.length t3)
     rw [←hwz] at KZ hO
     have hsz:=hO.size
     have HZ:=H_ (Below.outside HB.out hO (by omega) (by omega))
     have HOZ:=H_ hO
     have q0:=KZ.cell 0
     have q1:=KZ.cell 1
     have q2:=KZ.cell 2
     have q3:=KZ.cell 3
     clear KZ hO
     go_wp2
     simp only [←hwz]
     clear hwz
     refine bodyPost_ret (v:=.tuple #[aggD (.slice u0 D.first.length t0) (.slice u1 D.goal.length t1) (.slice u2 ml t2) (.slice u3 nw.length t3),.bool true]) (by simp [results,Tryz.results52,go_sem,q0,q1,q2,q3]) rfl (RetDB.mk _ _ _ _ _ rfl ⟨?_,?_,HZ.out⟩)
     ·rw [HD.out]
      exact (HO9.out.outside HOZ.out (.inr (by omega))).wide (by omega) (by omega)
     ·rw [HD.out]
  ·rw [hk] at a0
   have a4:=K2.out.cell 4
   by_cases h1:1≤A.count∧A.count≤D.made.length
   ·obtain ⟨ml,hk2,hkl⟩:∃ k:Nat,(D.made.length:Int)-A.count=k∧k≤D.made.length:=⟨((D.made.length:Int)-A.count).toNat,by omega,by omega⟩
    have hin:inB A.count 1 (D.made.length:Int)=true:=by simp [inB,h1]
    obtain ⟨ms,hms⟩:∃ ms,ms=D.made.take ml:=⟨_,rfl⟩
    have HR:=H_ (show some ms=madeS D A by
     have e1:D.made.length-A.count.toNat=ml:=by omega
     simp [madeS,←HNB.out,hk,h1,hms,e1])
    have HLEN:Hid (ms.length=ml):=H_ (by rw [hms];simp;omega)
    have HMS:=H_ (show SlM w3.heap.size w5.heap.size w6 (.slice pa ml pc) ms by rw [hms];exact SlM.front (OwnM.sl HO5.out) ml hkl)
    have HL:Hid (w5.heap.size≤w6.heap.size):=H_ hs6
    have g3:(0:Int)≤ml:=by omega
    have g4:(ml:Int)≤pc:=by omega
    have g5:ml≤pc:=by omega
    have HQ:Hid (¬(ml>60∨ml=D.made.length)):=H_ (by omega)
    have h6:¬60<ml:=by omega
    have h6':¬(60:Int)<(ml:Int):=by omega
    have h7:¬ml=D.made.length:=by omega
    have h7':¬(ml:Int)=(D.made.length:Int):=by omega
    have h7b:((ml:Int)==(D.made.length:Int))=false:=beq_false_of_ne h7'
    have hmb:ml≤1048576:=by omega
    clear hk h1 hms
    have HD:=H_ (show deskDo D A=(⟨D.first,D.goal,ms,(proofV D.first ms).getD []⟩,true) by rw [deskDo_said HDV.out.symm,←HR.out];simp only [deskTo,HLEN.out];rw [if_neg HQ.out])
    obtain ⟨nw,hnw⟩:∃ nw,nw=(proofV D.first ms).getD []:=⟨_,rfl⟩
    rw [←hnw] at HD
    have HNW:=H_ hnw
    clear hnw
    have d0:=K1.out.cell 0
    have d1:=K1.out.cell 1
    have d2:=K1.out.cell 2
    have d3:=K1.out.cell 3
    go_wp2_with (go_at_call 101;refine (l1In_any _ _ _ _).mono ?_;rintro e w' ⟨rfl,rfl⟩)
    refine (spec_l10With _ _ _ _ a b _ d _ D ms w6 HX.out (by omega) HM.out HMS.out HL.out (by rw [HLEN.out];omega) HK.out).mono ?_
    rintro e9 w9 ⟨z0,z1,z2,z3,rfl,ho9,hb9⟩
    rw [←HNW.out] at ho9
    obtain ⟨u0,t0,u1,t1,u2,t2,u3,t3,e0,e1,e2,e3⟩:=ho9.open
    change z0=.slice u0 D.first.length t0 at e0
    change z1=.slice u1 D.goal.length t1 at e1
    change z2=.slice u2 ms.length t2 at e2
    change z3=.slice u3 nw.length t3 at e3
    rw [HLEN.out] at e2
    subst e0 e1 e2 e3
    have HO9:=H_ ho9
    have hs9:=hb9.size
    replace HB:=H_ (HB.out.trans (hb9.mono (by omega)))
    replace K3:=H_ (K3.out.below hb9 (by omega))
    clear hb9 ho9 d0 d1 d2 d3
    have f0:=K3.out.free 0
    have f1:=K3.out.free 1
    have f2:=K3.out.free 2
    have f3:=K3.out.free 3
    have c0:=K3.out.cell 0
    have c1:=K3.out.cell 1
    have c2:=K3.out.cell 2
    have c3:=K3.out.cell 3
    obtain ⟨wz,hwz⟩:∃ wz,wz=(((w9.setCell ⟨w.heap.size+1+1,0,none⟩ (.slice u0 D.first.length t0)).setCell ⟨w.heap.size+1+1,1,none⟩ (.slice u1 D.goal.length t1)).setCell ⟨w.heap.size+1+1,2,none⟩ (.slice u2 ml t2)).setCell ⟨w.heap.size+1+1,3,none⟩ (.slice u3 nw.length t3):=⟨_,rfl⟩
    have KZ:=K3.out.set4 (.slice u0 D.first.length t0) (.slice u1 D.goal.length t1) (.slice u2 ml t2) (.slice u3 nw.length t3)
    have hO:=Outside.set4 (w.heap.size+1+1) w9 (.slice u0 D.first.length t0) (.slice u1 D.goal.length t1) (.slice u2 ml t2) (.slice u3 nw.length t3)
    rw [←hwz] at KZ hO
    have hsz:=hO.size
    have HZ:=H_ (Below.outside HB.out hO (by omega) (by omega))
    have HOZ:=H_ hO
    have q0:=KZ.cell 0
    have q1:=KZ.cell 1
    have q2:=KZ.cell 2
    have q3:=KZ.cell 3
    clear KZ hO
    go_wp2
    simp only [←hwz]
    clear hwz
    refine bodyPost_ret (v:=.tuple #[aggD (.slice u0 D.first.length t0) (.slice u1 D.goal.length t1) (.slice u2 ml t2) (.slice u3 nw.length t3),.bool true]) (by simp [results,Tryz.results52,go_sem,q0,q1,q2,q3]) rfl (RetDB.mk _ _ _ _ _ rfl ⟨?_,?_,HZ.out⟩)
    ·rw [HD.out]
     exact (HO9.out.outside HOZ.out (.inr (by omega))).wide (by omega) (by omega)
    ·rw [HD.out]
   ·have hin:inB A.count 1 (D.made.length:Int)=false:=by simp [inB];omega
    have HD:=H_ (show deskDo D A=(D,false) by
     have h2:¬(A.kind=1∧1≤A.count∧A.count≤D.made.length):=fun h=>h1 h.2
     have h3:madeS D A=none:=by
      unfold madeS
      rw [←HNB.out,if_neg h2]
      simp [hk]
     rw [deskDo_said HDV.out.symm,h3]
     rfl)
    clear hk h1
    have o0:=KO.out.cell 0
    have o1:=KO.out.cell 1
    have o2:=KO.out.cell 2
    have o3:=KO.out.cell 3
    have f0:=K3.out.free 0
    have f1:=K3.out.free 1
    have f2:=K3.out.free 2
    have f3:=K3.out.free 3
    have c0:=K3.out.cell 0
    have c1:=K3.out.cell 1
    have c2:=K3.out.cell 2
    have c3:=K3.out.cell 3
    obtain ⟨wz,hwz⟩:∃ wz,wz=(((w6.setCell ⟨w.heap.size+1+1,0,none⟩ (.slice x0 D.first.length y0)).setCell ⟨w.heap.size+1+1,1,none⟩ (.slice x1 D.goal.length y1)).setCell ⟨w.heap.size+1+1,2,none⟩ (.slice x2 D.made.length y2)).setCell ⟨w.heap.size+1+1,3,none⟩ (.slice x3 D.now.length y3):=⟨_,rfl⟩
    have KZ:=K3.out.set4 (.slice x0 D.first.length y0) (.slice x1 D.goal.length y1) (.slice x2 D.made.length y2) (.slice x3 D.now.length y3)
    have hO:=Outside.set4 (w.heap.size+1+1) w6 (.slice x0 D.first.length y0) (.slice x1 D.goal.length y1) (.slice x2 D.made.length y2) (.slice x3 D.now.length y3)
    rw [←hwz] at KZ hO
    have hsz:=hO.size
    have HZ:=H_ (Below.outside HB.out hO (by omega) (by omega))
    have HOZ:=H_ hO
    have q0:=KZ.cell 0
    have q1:=KZ.cell 1
    have q2:=KZ.cell 2
    have q3:=KZ.cell 3
    clear KZ hO
    go_wp2_with (go_at_call 101;refine (l1In_any _ _ _ _).mono ?_;rintro e w' ⟨rfl,rfl⟩)
    simp only [←hwz]
    clear hwz
    refine bodyPost_ret (v:=.tuple #[aggD (.slice x0 D.first.length y0) (.slice x1 D.goal.length y1) (.slice x2 D.made.length y2) (.slice x3 D.now.length y3),.bool false]) (by simp [results,Tryz.results52,go_sem,q0,q1,q2,q3]) rfl (RetDB.mk _ _ _ _ _ rfl ⟨?_,?_,HZ.out⟩)
    ·rw [HD.out]
     exact (HO2.out.outside HOZ.out (.inr (by omega))).wide (by omega) (by omega)
    ·rw [HD.out]
  ·rw [hk] at a0
   have HR:=H_ (show some (D.made++simpBy D.now)=madeS D A by simp [madeS,←HNB.out,hk])
   have hsl:=simpBy_len D.now
   clear hk
   have d3:=K1.out.cell 3
   go_wp2_with fail
   refine (spec_SimpleBy _ D.now w6 (SlI.rd HX.out.now (by omega)) (by omega)).mono ?_
   rintro e7 w7 ⟨v7,rfl,hb7,ho7⟩
   have hs7:=hb7.size
   replace HB:=H_ (HB.out.trans (hb7.mono (by omega)))
   replace K1:=H_ (K1.out.below hb7 (by omega))
   replace K2:=H_ (K2.out.below hb7 (by omega))
   replace K3:=H_ (K3.out.below hb7 (by omega))
   replace KO:=H_ (KO.out.below hb7 (by omega))
   replace HX:=H_ (HX.out.below hb7 (by omega))
   replace HO2:=H_ (HO2.out.below hb7 (by omega))
   replace HO5:=H_ (OwnM.below HO5.out hb7 (by omega))
   obtain ⟨sa,sc,rfl⟩:=Own.shape ho7
   have HS7:=H_ (OwnM.sl ho7)
   clear hb7 ho7 a0 d3
   go_wp2_with (at_builtin;go_loud (refine wpList_app_sl rfl _ _ 29 rfl 67 (.agg #[.int .i64 0,.bool false,.int .i64 0]) 3 24 Tryz.underlying29 info_mv rfl (by decide) (by decide) rfl HO5.out rfl HS7.out (mvs_one _) (by omega) (by omega) ?_))
   intro v8 w8 ho8 _ hout8 _
   have hs8:=hout8.size
   have hb8:Below w3.heap.size w7 w8:=Below.outside ((B_ w7.heap.size w7).mono (by omega)) hout8 (le_ _) (by omega)
   have hm8:SlM w3.heap.size w8.heap.size w8 v8 (D.made++simpBy D.now):=by unfold SlM;rw [List.length_append,mvs_append];exact Own.sl ho8
   obtain ⟨qa,qc,hv⟩:=Own.shape ho8
   obtain ⟨ml,hml⟩:∃ ml,ml=D.made.length+(simpBy D.now).length:=⟨_,rfl⟩
   rw [←hml] at hv
   subst hv
   obtain ⟨ms,hms⟩:∃ ms,ms=D.made++simpBy D.now:=⟨_,rfl⟩
   have HLEN:Hid (ms.length=ml):=H_ (by rw [hms,hml];simp)
   rw [←hms] at HR hm8
   have HMS:=H_ hm8
   have HL:Hid (w8.heap.size≤w8.heap.size):=H_ (le_ _)
   have hmb:ml≤1048576:=by omega
   replace HB:=H_ (HB.out.trans (hb8.mono (by omega)))
   replace K1:=H_ (K1.out.below hb8 (by omega))
   replace K2:=H_ (K2.out.below hb8 (by omega))
   replace K3:=H_ (K3.out.below hb8 (by omega))
   replace KO:=H_ (KO.out.below hb8 (by omega))
   replace HX:=H_ (HX.out.below hb8 (by omega))
   replace HO2:=H_ (HO2.out.below hb8 (by omega))
   clear hb8 hout8 ho8 hm8 hms hml
   by_cases hq:ml>60∨ml=D.made.length
   ·have HD:=H_ (show deskDo D A=(D,false) by rw [deskDo_said HDV.out.symm,←HR.out];simp only [deskTo,HLEN.out];rw [if_pos hq])
    have d2:=K1.out.cell 2
    by_cases h6:60<ml
    ·have h6':(60:Int)<(ml:Int):=by omega
     clear hq
     have o0:=KO.out.cell 0
     have o1:=KO.out.cell 1
     have o2:=KO.out.cell 2
     have o3:=KO.out.cell 3
     have f0:=K3.out.free 0
     have f1:=K3.out.free 1
     have f2:=K3.out.free 2
     have f3:=K3.out.free 3
     have c0:=K3.out.cell 0
     have c1:=K3.out.cell 1
     have c2:=K3.out.cell 2
     have c3:=K3.out.cell 3
     obtain ⟨wz,hwz⟩:∃ wz,wz=(((w8.setCell ⟨w.heap.size+1+1,0,none⟩ (.slice x0 D.first.length y0)).setCell ⟨w.heap.size+1+1,1,none⟩ (.slice x1 D.goal.length y1)).setCell ⟨w.heap.size+1+1,2,none⟩ (.slice x2 D.made.length y2)).setCell ⟨w.heap.size+1+1,3,none⟩ (.slice x3 D.now.length y3):=⟨_,rfl⟩
     have KZ:=K3.out.set4 (.slice x0 D.first.length y0) (.slice x1 D.goal.length y1) (.slice x2 D.made.length y2) (.slice x3 D.now.length y3)
     have hO:=Outside.set4 (w.heap.size+1+1) w8 (.slice x0 D.first.length y0) (.slice x1 D.goal.length y1) (.slice x2 D.made.length y2) (.slice x3 D.now.length y3)
     rw [←hwz] at KZ hO
     have hsz:=hO.size
     have HZ:=H_ (Below.outside HB.out hO (by omega) (by omega))
     have HOZ:=H_ hO
     have q0:=KZ.cell 0
     have q1:=KZ.cell 1
     have q2:=KZ.cell 2
     have q3:=KZ.cell 3
     clear KZ hO
     go_wp2
     simp only [←hwz]
     clear hwz
     refine bodyPost_ret (v:=.tuple #[aggD (.slice x0 D.first.length y0) (.slice x1 D.goal.length y1) (.slice x2 D.made.length y2) (.slice x3 D.now.length y3),.bool false]) (by simp [results,Tryz.results52,go_sem,q0,q1,q2,q3]) rfl (RetDB.mk _ _ _ _ _ rfl ⟨?_,?_,HZ.out⟩)
     ·rw [HD.out]
      exact (HO2.out.outside HOZ.out (.inr (by omega))).wide (by omega) (by omega)
     ·rw [HD.out]
    ·have h7:ml=D.made.length:=by omega
     have h7':(ml:Int)=(D.made.length:Int):=by omega
     have h6':¬(60:Int)<(ml:Int):=by omega
     clear hq h7
     have o0:=KO.out.cell 0
     have o1:=KO.out.cell 1
     have o2:=KO.out.cell 2
     have o3:=KO.out.cell 3
     have f0:=K3.out.free 0
     have f1:=K3.out.free 1
     have f2:=K3.out.free 2
     have f3:=K3.out.free 3
     have c0:=K3.out.cell 0
     have c1:=K3.out.cell 1
     have c2:=K3.out.cell 2
     have c3:=K3.out.cell 3
     obtain ⟨wz,hwz⟩:∃ wz,wz=(((w8.setCell ⟨w.heap.size+1+1,0,none⟩ (.slice x0 D.first.length y0)).setCell ⟨w.heap.size+1+1,1,none⟩ (.slice x1 D.goal.length y1)).setCell ⟨w.heap.size+1+1,2,none⟩ (.slice x2 D.made.length y2)).setCell ⟨w.heap.size+1+1,3,none⟩ (.slice x3 D.now.length y3):=⟨_,rfl⟩
     have KZ:=K3.out.set4 (.slice x0 D.first.length y0) (.slice x1 D.goal.length y1) (.slice x2 D.made.length y2) (.slice x3 D.now.length y3)
     have hO:=Outside.set4 (w.heap.size+1+1) w8 (.slice x0 D.first.length y0) (.slice x1 D.goal.length y1) (.slice x2 D.made.length y2) (.slice x3 D.now.length y3)
     rw [←hwz] at KZ hO
     have hsz:=hO.size
     have HZ:=H_ (Below.outside HB.out hO (by omega) (by omega))
     have HOZ:=H_ hO
     have q0:=KZ.cell 0
     have q1:=KZ.cell 1
     have q2:=KZ.cell 2
     have q3:=KZ.cell 3
     clear KZ hO
     go_wp2
     simp only [←hwz]
     clear hwz
     refine bodyPost_ret (v:=.tuple #[aggD (.slice x0 D.first.length y0) (.slice x1 D.goal.length y1) (.slice x2 D.made.length y2) (.slice x3 D.now.length y3),.bool false]) (by simp [results,Tryz.results52,go_sem,q0,q1,q2,q3]) rfl (RetDB.mk _ _ _ _ _ rfl ⟨?_,?_,HZ.out⟩)
     ·rw [HD.out]
      exact (HO2.out.outside HOZ.out (.inr (by omega))).wide (by omega) (by omega)
     ·rw [HD.out]
   ·have HQ:=H_ hq
    have h6:¬60<ml:=by omega
    have h6':¬(60:Int)<(ml:Int):=by omega
    have h7:¬ml=D.made.length:=by omega
    have h7':¬(ml:Int)=(D.made.length:Int):=by omega
    clear hq
    have HD:=H_ (show deskDo D A=(⟨D.first,D.goal,ms,(proofV D.first ms).getD []⟩,true) by rw [deskDo_said HDV.out.symm,←HR.out];simp only [deskTo,HLEN.out];rw [if_neg HQ.out])
    obtain ⟨nw,hnw⟩:∃ nw,nw=(proofV D.first ms).getD []:=⟨_,rfl⟩
    rw [←hnw] at HD
    have HNW:=H_ hnw
    clear hnw
    have d0:=K1.out.cell 0
    have d1:=K1.out.cell 1
    have d2:=K1.out.cell 2
    have d3:=K1.out.cell 3
    go_wp2_with fail
    refine (spec_l10With _ _ _ _ a b _ d _ D ms w8 HX.out (by omega) HM.out HMS.out HL.out (by rw [HLEN.out];omega) HK.out).mono ?_
    rintro e9 w9 ⟨z0,z1,z2,z3,rfl,ho9,hb9⟩
    rw [←HNW.out] at ho9
    obtain ⟨u0,t0,u1,t1,u2,t2,u3,t3,e0,e1,e2,e3⟩:=ho9.open
    change z0=.slice u0 D.first.length t0 at e0
    change z1=.slice u1 D.goal.length t1 at e1
    change z2=.slice u2 ms.length t2 at e2
    change z3=.slice u3 nw.length t3 at e3
    rw [HLEN.out] at e2
    subst e0 e1 e2 e3
    have HO9:=H_ ho9
    have hs9:=hb9.size
    replace HB:=H_ (HB.out.trans (hb9.mono (by omega)))
    replace K3:=H_ (K3.out.below hb9 (by omega))
    clear hb9 ho9 d0 d1 d2 d3
    have f0:=K3.out.free 0
    have f1:=K3.out.free 1
    have f2:=K3.out.free 2
    have f3:=K3.out.free 3
    have c0:=K3.out.cell 0
    have c1:=K3.out.cell 1
    have c2:=K3.out.cell 2
    have c3:=K3.out.cell 3
    obtain ⟨wz,hwz⟩:∃ wz,wz=(((w9.setCell ⟨w.heap.size+1+1,0,none⟩ (.slice u0 D.first.length t0)).setCell ⟨w.heap.size+1+1,1,none⟩ (.slice u1 D.goal.length t1)).setCell ⟨w.heap.size+1+1,2,none⟩ (.slice u2 ml t2)).setCell ⟨w.heap.size+1+1,3,none⟩ (.slice u3 nw.length t3):=⟨_,rfl⟩
    have KZ:=K3.out.set4 (.slice u0 D.first.length t0) (.slice u1 D.goal.length t1) (.slice u2 ml t2) (.slice u3 nw.length t3)
    have hO:=Outside.set4 (w.heap.size+1+1) w9 (.slice u0 D.first.length t0) (.slice u1 D.goal.length t1) (.slice u2 ml t2) (.slice u3 nw.length t3)
    rw [←hwz] at KZ hO
    have hsz:=hO.size
    have HZ:=H_ (Below.outside HB.out hO (by omega) (by omega))
    have HOZ:=H_ hO
    have q0:=KZ.cell 0
    have q1:=KZ.cell 1
    have q2:=KZ.cell 2
    have q3:=KZ.cell 3
    clear KZ hO
    go_wp2
    simp only [←hwz]
    clear hwz
    refine bodyPost_ret (v:=.tuple #[aggD (.slice u0 D.first.length t0) (.slice u1 D.goal.length t1) (.slice u2 ml t2) (.slice u3 nw.length t3),.bool true]) (by simp [results,Tryz.results52,go_sem,q0,q1,q2,q3]) rfl (RetDB.mk _ _ _ _ _ rfl ⟨?_,?_,HZ.out⟩)
    ·rw [HD.out]
     exact (HO9.out.outside HOZ.out (.inr (by omega))).wide (by omega) (by omega)
    ·rw [HD.out]
theorem deskDo_valid {D:Dsk} (a:Ac) (h:deskV D=true):deskV (deskDo D a).1=true:=by
 have hg:=(deskV_parts h).2.1
 unfold deskDo
 rw [if_pos h]
 split
 ·rename_i p hp
  cases hm:madeV D a with
  | none=>rw [hm] at hp;cases hp
  | some ms=>
   rw [hm] at hp
   cases hq:proofV D.first ms with
   | none=>simp [hq] at hp
   | some x=>
    simp [hq] at hp
    subst hp
    simp [deskV,hq,hg,eqL]
 ·exact h
theorem deskV_size {D:Dsk} (h:deskV D=true):D.size≤180:=by
 obtain ⟨h1,h2,h3,h4,_⟩:=deskV_parts h
 have k1:=(kat_len h1).2
 have k2:=(kat_len h2).2
 have k3:=(kat_len h3).2
 unfold Dsk.size
 omega
end Go.Proofs.YtfnnhimopokpnaaGreatDoor
