/- Lemmas for this seat; no condition. -/
import Derived.Test.YtfnnhimopokpnaaGreatDoorHAAW
namespace Go.Proofs.YtfnnhimopokpnaaGreatDoor
open Go.RowKit
set_option maxRecDepth 100000
set_option maxHeartbeats 0
set_option linter.unusedVariables false
theorem impl_DeskLine_ask (lo hi:Nat) (a b c d:Value) (D:Dsk) (l:List UInt8) (s:ByteArray) (hs:s=⟨l.toArray⟩) (w:World) (hE:EnvK w) (hN:Env w) (hx:DeskAt lo hi w a b c d D) (hh:hi≤w.heap.size) (hm:D.size≤1048576) (hv:deskV D=true) (hl:l.length≤2097152) (hr:readAc l=none) :
  Calls Tryz.prog 20 #[aggD a b c d,.string s] w (RetDS fun a' b' c' d' s' w'=>s'=⟨(askV D l).toArray⟩∧DeskOwn w.heap.size w'.heap.size w' a' b' c' d' D∧Below w.heap.size w w'):=by
 subst hs
 have HM:=H_ hm
 obtain ⟨w0,hw0⟩:∃ w0,w0=(w.alloc (.cells #[a,b,c,d] 31)).alloc (.cells #[.slice none 0 0,.slice none 0 0,.slice none 0 0,.slice none 0 0] 31):=⟨_,rfl⟩
 have hb0:Below w.heap.size w w0:=by rw [hw0];exact ((B_ _ _).alloc (le_ _) _).alloc (by simp) _
 have hs0:w0.heap.size=w.heap.size+2:=by rw [hw0];simp
 have K1:Hid (Blk w.heap.size (.cells #[a,b,c,d] 31) w0):=by
  rw [hw0]
  exact H_ ((Blk.new w _).below ((B_ (w.alloc _).heap.size _).alloc (le_ _) _) (by simp))
 have K3:Hid (Blk (w.heap.size+1) (.cells #[.slice none 0 0,.slice none 0 0,.slice none 0 0,.slice none 0 0] 31) w0):=by
  have h:=Blk.new (w.alloc (.cells #[a,b,c,d] 31)) (.cells #[.slice none 0 0,.slice none 0 0,.slice none 0 0,.slice none 0 0] 31)
  rw [alloc_size] at h
  rw [hw0];exact H_ h
 have HX:=H_ (hx.below hb0 hh)
 have HB:=H_ hb0
 have HE:=H_ (hE.below hb0)
 have HN:=H_ (hN.below hb0)
 have HW0:=H_ hw0
 have HV:=H_ hv
 have HRA:=H_ hr
 clear hx hE hN hb0 hw0 hv hr hm
 have d0:=K1.out.cell 0
 have d1:=K1.out.cell 1
 have d2:=K1.out.cell 2
 have d3:=K1.out.cell 3
 go_enter Tryz.func20,Tryz.ntmps20
 go_wp2_with (rw [←HW0.out])
 refine (impl_DeskValid _ _ a b c d D w0 HE.out HX.out (by omega) HM.out).mono ?_
 rintro e1 w1 ⟨rfl,hb1⟩
 rw [HV.out]
 have hs1:=hb1.size
 replace HB:=H_ (HB.out.trans (hb1.mono (by omega)))
 replace K1:=H_ (K1.out.below hb1 K1.out.lt)
 replace K3:=H_ (K3.out.below hb1 K3.out.lt)
 replace HX:=H_ (HX.out.below hb1 (by omega))
 replace HE:=H_ (HE.out.below hb1)
 replace HN:=H_ (HN.out.below hb1)
 clear hb1 d0 d1 d2 d3
 go_wp2_with fail
 refine (impl_ReadAct l _ rfl w1 HN.out hl).mono ?_
 rintro e2 w2 ⟨rfl,hb2⟩
 rw [HRA.out,rdAc_none]
 have hs2:=hb2.size
 replace HB:=H_ (HB.out.trans (hb2.mono (by omega)))
 replace K1:=H_ (K1.out.below hb2 K1.out.lt)
 replace K3:=H_ (K3.out.below hb2 K3.out.lt)
 replace HX:=H_ (HX.out.below hb2 (by omega))
 replace HE:=H_ (HE.out.below hb2)
 clear hb2 HN
 obtain ⟨w3,hw3⟩:∃ w3,w3=w2.alloc (.cells #[.int .i64 0,.int .i64 0,.bool false,.int .i64 0,.int .i64 0] 69):=⟨_,rfl⟩
 obtain ⟨hb3,KA_,hs3⟩:=box_facts2 hw3
 replace HB:=H_ (HB.out.trans (hb3.mono (by omega)))
 replace K1:=H_ (K1.out.below hb3 K1.out.lt)
 replace K3:=H_ (K3.out.below hb3 K3.out.lt)
 replace HX:=H_ (HX.out.below hb3 (by omega))
 replace HE:=H_ (HE.out.below hb3)
 have hgs:∀ w',Below w3.heap.size w3 w'→w'.cell? ⟨w.heap.size,0,none⟩=some a∧w'.cell? ⟨w.heap.size,1,none⟩=some b∧w'.cell? ⟨w.heap.size,2,none⟩=some c∧w'.cell? ⟨w.heap.size,3,none⟩=some d:=fun w' hb=>⟨(K1.out.below hb K1.out.lt).cell 0,(K1.out.below hb K1.out.lt).cell 1,(K1.out.below hb K1.out.lt).cell 2,(K1.out.below hb K1.out.lt).cell 3⟩
 have hbA:Below w3.heap.size w3 w3.drew:=Below.drew (B_ _ _)
 have hS:=hgs w3 (B_ _ _)
 have hSA:=hgs _ hbA
 have HGS:=H_ hgs
 have hdz:w3.drew.heap.size=w3.heap.size:=rfl
 have HXd:=H_ (HX.out.below hbA (by omega))
 clear hb3 KA_ hgs
 go_upto_region 5 with fail
 simp only [←hw3]
 clear hw3
 go_region_held3 (fun w'=>w'.cell? ⟨w.heap.size,0,none⟩=some a∧w'.cell? ⟨w.heap.size,1,none⟩=some b∧w'.cell? ⟨w.heap.size,2,none⟩=some c∧w'.cell? ⟨w.heap.size,3,none⟩=some d) (first | with_reducible assumption | go_keep) (first
  | (go_at_call 37;refine (desk_clone _ _ a b c d D w3.drew HXd.out (by omega) HM.out).mono ?_;rintro e5 w5 ⟨y0,y1,y2,y3,rfl,o_,hb_⟩;obtain ⟨z0,z1,z2,z3,z4,z5,z6,z7,i0,i1,i2,i3⟩:=o_.open;subst i0 i1 i2 i3;(have hs5:=hb_.size);(have hb5:=hbA.trans (hb_.mono (by omega)));(have hS5:=HGS.out _ hb5);(have HB5:=H_ hb5);(have O5:=H_ o_);clear hb_ hb5 o_)
  | (go_at_call 49;refine (ask_any _ _ a b c d D l w5 (HE.out.below HB5.out) (HX.out.below HB5.out (by omega)) (by omega) HM.out HV.out).mono ?_;rintro e6 w6 ⟨rfl,hb_⟩;(have hs6:=hb_.size);(have hb6:=HB5.out.trans (hb_.mono (by omega)));(have hS6:=HGS.out _ hb6);(have k3:=K3.out.below hb6 K3.out.lt);(have c0:=k3.cell 0);(have c1:=k3.cell 1);(have c2:=k3.cell 2);(have c3:=k3.cell 3);(have f0:=k3.free 0);(have f1:=k3.free 1);(have f2:=k3.free 2);(have f3:=k3.free 3);(have KM:=H_ k3);(have hO_:=Outside.set4 (w.heap.size+1) w6 (.slice z0 D.first.length z1) (.slice z2 D.goal.length z3) (.slice z4 D.made.length z5) (.slice z6 D.now.length z7));(have k1_:=(K1.out.below hb6 K1.out.lt).outside hO_ (.inl (by omega)));(have j0:=k1_.cell 0);(have j1:=k1_.cell 1);(have j2:=k1_.cell 2);(have j3:=k1_.cell 3);(have O6:=H_ (O5.out.below hb_ (by omega)));(have HB6:=H_ hb6);clear hb_ hb6 k3 hO_ k1_))
 obtain ⟨wz,hwz⟩:∃ wz,wz=(((w6.setCell ⟨w.heap.size+1,0,none⟩ (.slice z0 D.first.length z1)).setCell ⟨w.heap.size+1,1,none⟩ (.slice z2 D.goal.length z3)).setCell ⟨w.heap.size+1,2,none⟩ (.slice z4 D.made.length z5)).setCell ⟨w.heap.size+1,3,none⟩ (.slice z6 D.now.length z7):=⟨_,rfl⟩
 have KZ:=KM.out.set4 (.slice z0 D.first.length z1) (.slice z2 D.goal.length z3) (.slice z4 D.made.length z5) (.slice z6 D.now.length z7)
 have hO:=Outside.set4 (w.heap.size+1) w6 (.slice z0 D.first.length z1) (.slice z2 D.goal.length z3) (.slice z4 D.made.length z5) (.slice z6 D.now.length z7)
 rw [←hwz] at KZ hO
 have hsz:=hO.size
 have HZ:=H_ (Below.outside (HB.out.trans (HB6.out.mono (by omega))) hO (by omega) (by omega))
 have OZ:=H_ (O6.out.outside hO (.inr (by omega)))
 have q0:=KZ.cell 0
 have q1:=KZ.cell 1
 have q2:=KZ.cell 2
 have q3:=KZ.cell 3
 clear KZ hO hS hSA hS5 hS6 hbA c0 c1 c2 c3 f0 f1 f2 f3 j0 j1 j2 j3
 simp only [←hwz]
 clear hwz
 go_wp2
 refine bodyPost_ret (v:=.tuple #[aggD (.slice z0 D.first.length z1) (.slice z2 D.goal.length z3) (.slice z4 D.made.length z5) (.slice z6 D.now.length z7),.string ⟨(askV D l).toArray⟩]) (by simp [results,Tryz.results20,go_sem,q0,q1,q2,q3]) rfl ⟨_,_,_,_,_,rfl,rfl,?_,HZ.out⟩
 exact OZ.out.wide (by omega) (by omega)
theorem impl_DeskLine_not (lo hi:Nat) (a b c d:Value) (D:Dsk) (s:ByteArray) (w:World) (hE:EnvK w) (hx:DeskAt lo hi w a b c d D) (hh:hi≤w.heap.size) (hm:D.size≤1048576) (hv:deskV D=false) :
  Calls Tryz.prog 20 #[aggD a b c d,.string s] w (RetDS fun a' b' c' d' s' w'=>s'=⟨#[]⟩∧DeskOwn w.heap.size w'.heap.size w' a' b' c' d' Dsk.none∧Below w.heap.size w w'):=by
 have HM:=H_ hm
 obtain ⟨w0,hw0⟩:∃ w0,w0=(w.alloc (.cells #[a,b,c,d] 31)).alloc (.cells #[.slice none 0 0,.slice none 0 0,.slice none 0 0,.slice none 0 0] 31):=⟨_,rfl⟩
 have hb0:Below w.heap.size w w0:=by rw [hw0];exact ((B_ _ _).alloc (le_ _) _).alloc (by simp) _
 have hs0:w0.heap.size=w.heap.size+2:=by rw [hw0];simp
 have K1:Hid (Blk w.heap.size (.cells #[a,b,c,d] 31) w0):=by
  rw [hw0]
  exact H_ ((Blk.new w _).below ((B_ (w.alloc _).heap.size _).alloc (le_ _) _) (by simp))
 have K3:Hid (Blk (w.heap.size+1) (.cells #[.slice none 0 0,.slice none 0 0,.slice none 0 0,.slice none 0 0] 31) w0):=by
  have h:=Blk.new (w.alloc (.cells #[a,b,c,d] 31)) (.cells #[.slice none 0 0,.slice none 0 0,.slice none 0 0,.slice none 0 0] 31)
  rw [alloc_size] at h
  rw [hw0];exact H_ h
 have HX:=H_ (hx.below hb0 hh)
 have HB:=H_ hb0
 have HE:=H_ (hE.below hb0)
 have HW0:=H_ hw0
 have HV:=H_ hv
 clear hx hE hb0 hw0 hv hm
 have d0:=K1.out.cell 0
 have d1:=K1.out.cell 1
 have d2:=K1.out.cell 2
 have d3:=K1.out.cell 3
 go_enter Tryz.func20,Tryz.ntmps20
 go_wp2_with (rw [←HW0.out])
 refine (impl_DeskValid _ _ a b c d D w0 HE.out HX.out (by omega) HM.out).mono ?_
 rintro e1 w1 ⟨rfl,hb1⟩
 rw [HV.out]
 have hs1:=hb1.size
 replace HB:=H_ (HB.out.trans (hb1.mono (by omega)))
 replace K3:=H_ (K3.out.below hb1 K3.out.lt)
 clear hb1 d0 d1 d2 d3
 have c0:=K3.out.cell 0
 have c1:=K3.out.cell 1
 have c2:=K3.out.cell 2
 have c3:=K3.out.cell 3
 have f0:=K3.out.free 0
 have f1:=K3.out.free 1
 have f2:=K3.out.free 2
 have f3:=K3.out.free 3
 obtain ⟨wz,hwz⟩:∃ wz,wz=(((w1.setCell ⟨w.heap.size+1,0,none⟩ (.slice none 0 0)).setCell ⟨w.heap.size+1,1,none⟩ (.slice none 0 0)).setCell ⟨w.heap.size+1,2,none⟩ (.slice none 0 0)).setCell ⟨w.heap.size+1,3,none⟩ (.slice none 0 0):=⟨_,rfl⟩
 have KZ:=K3.out.set4 (.slice none 0 0) (.slice none 0 0) (.slice none 0 0) (.slice none 0 0)
 have hO:=Outside.set4 (w.heap.size+1) w1 (.slice none 0 0) (.slice none 0 0) (.slice none 0 0) (.slice none 0 0)
 rw [←hwz] at KZ hO
 have HZ:=H_ (Below.outside HB.out hO (by omega) (by omega))
 have q0:=KZ.cell 0
 have q1:=KZ.cell 1
 have q2:=KZ.cell 2
 have q3:=KZ.cell 3
 clear KZ hO
 go_wp2
 simp only [←hwz]
 clear hwz
 refine bodyPost_ret (v:=.tuple #[aggD (.slice none 0 0) (.slice none 0 0) (.slice none 0 0) (.slice none 0 0),.string ⟨#[]⟩]) (by simp [results,Tryz.results20,go_sem,q0,q1,q2,q3]) rfl ⟨_,_,_,_,_,rfl,rfl,?_,HZ.out⟩
 exact DeskOwn.nils _ _ HZ.out.size wz
theorem okS_okT (b:Bool):okS b=⟨(okT b).toArray⟩:=by cases b<;>rfl
theorem impl_DeskLine (lo hi:Nat) (a b c d:Value) (D:Dsk) (l:List UInt8) (s:ByteArray) (hs:s=⟨l.toArray⟩) (w:World) (hE:EnvK w) (hN:Env w) (hx:DeskAt lo hi w a b c d D) (hh:hi≤w.heap.size) (hm:D.size≤1048576) (hl:l.length≤2097152) :
  Calls Tryz.prog 20 #[aggD a b c d,.string s] w (RetDS fun a' b' c' d' s' w'=>s'=⟨(lineX D l).2.toArray⟩∧DeskOwn w.heap.size w'.heap.size w' a' b' c' d' (lineX D l).1∧Below w.heap.size w w'):=by
 cases hv:deskV D with
 | false=>
  rw [show lineX D l=(Dsk.none,[]) by unfold lineX;rw [hv];rfl]
  exact impl_DeskLine_not lo hi a b c d D s w hE hx hh hm hv
 | true=>
  cases hr:readAc l with
  | none=>
   rw [show lineX D l=(D,askV D l) by unfold lineX lineV;rw [hv,hr];rfl]
   exact impl_DeskLine_ask lo hi a b c d D l s hs w hE hN hx hh hm hv hl hr
  | some A=>
   rw [show lineX D l=((deskDo D A).1,okT (deskDo D A).2) by unfold lineX lineV;rw [hv,hr];rfl]
   have h:=impl_DeskLine_act lo hi a b c d D A l s hs w hE hN hx hh hm hv hl hr
   rw [okS_okT] at h
   exact h
theorem ltL_drop {xs ys:List Int} {k:Nat} (h1:k≤xs.length) (h2:k≤ys.length) (h:∀ j (_:j<k) (h2:j<xs.length) (h3:j<ys.length),xs[j]=ys[j]):ltL xs ys=ltL (xs.drop k) (ys.drop k):=by
 have e:xs.take k=ys.take k:=by
  refine List.ext_getElem (by simp;omega) fun i a b=>?_
  simp only [List.getElem_take]
  simp at a b
  exact h i (by omega) (by omega) (by omega)
 conv=>lhs;rw [←List.take_append_drop k xs,←List.take_append_drop k ys,e]
 exact ltL_pre _ _ _
theorem ltL_at {xs ys:List Int} {k:Nat} (h1:k<xs.length) (h2:k<ys.length) (h:∀ j (_:j<k) (h2:j<xs.length) (h3:j<ys.length),xs[j]=ys[j]) (hne:xs[k]≠ys[k]):ltL xs ys=decide (xs[k]<ys[k]):=by
 rw [ltL_drop (by omega) (by omega) h,List.drop_eq_getElem_cons h1,List.drop_eq_getElem_cons h2,ltL]
 by_cases hl:xs[k]<ys[k]
 ·simp [hl]
 ·have:ys[k]<xs[k]:=by omega
  simp [hl,this]
theorem ltL_end {xs ys:List Int} {k:Nat} (h1:k≤xs.length) (h2:k≤ys.length) (hk:k=xs.length∨k=ys.length) (h:∀ j (_:j<k) (h2:j<xs.length) (h3:j<ys.length),xs[j]=ys[j]):ltL xs ys=decide (xs.length<ys.length):=by
 rw [ltL_drop h1 h2 h]
 have l1:(xs.drop k).length=xs.length-k:=List.length_drop
 have l2:(ys.drop k).length=ys.length-k:=List.length_drop
 cases hx:xs.drop k<;>cases hy:ys.drop k<;>rw [hx] at l1<;>rw [hy] at l2<;>simp only [List.length_nil,List.length_cons] at l1 l2<;>simp only [ltL]
 ·symm;simp;omega
 ·symm;simp;omega
 ·symm;simp;omega
 ·omega
theorem l1Less_any (lo hi lo' hi':Nat) (v v':Value) (xs ys:List Int) (w:World) (hx:SlI lo hi w v xs) (hy:SlI lo' hi' w v' ys) (hm:xs.length≤16777216) (hm':ys.length≤16777216) :
  Calls Tryz.prog 113 #[v,v'] w fun e w'=>e=.returned (.bool (ltL xs ys))∧Below w.heap.size w w':=by
 obtain ⟨a,cap,rfl,hcap,hcm,hc⟩:=hx.open
 obtain ⟨a',cap',rfl,hcap',hcm',hc'⟩:=hy.open
 clear hx hcm hy hcm' hcap hcap'
 go_enter Tryz.func113,Tryz.ntmps113
 go_wp2
 go_loopw [5] (fun i wr=>∃ k m:Nat,k≤xs.length∧k≤ys.length∧i=.int .i64 k∧Hid (∀ j (_:j<k) (h2:j<xs.length) (h3:j<ys.length),xs[j]=ys[j])∧wr=w.drewN m) (fun i _=>xs.length-(intOf i).toNat)
 case atStart=>exact ⟨0,0,by omega,by omega,rfl,H_ (by intro j h;omega),rfl⟩
 case round=>
  obtain ⟨k,m,hk,hk',rfl,HJ,rfl⟩:=hrel
  by_cases hlt:k<xs.length
  ·by_cases hlt':k<ys.length
   ·obtain ⟨b,off,rfl,_,_,hbs,hck⟩:=hc k hlt
    obtain ⟨b',off',rfl,_,_,hbs',hck'⟩:=hc' k hlt'
    clear hc hc'
    by_cases he:xs[k]=ys[k]
    ·have HE:=H_ he
     have he1:(xs[k] !=ys[k])=false:=by simp [he]
     clear he
     go_wp2
     go_quiet (fail)
     go_wp2
     go_roundw
     case rel=>
      refine ⟨k+1,m+nq,by omega,by omega,by go_num,H_ ?_,by first | rfl | rw [World.drewN_drewN]⟩
      intro j h1 h2 h3
      rcases Nat.lt_or_ge j k with h|h
      ·exact HJ.out j h h2 h3
      ·obtain rfl:j=k:=by omega
       exact HE.out
     case measure=>simp [intOf];omega
    ·have HE:=H_ (ltL_at hlt hlt' HJ.out he)
     have he1:(xs[k] !=ys[k])=true:=by simp [he]
     clear he
     go_wp2
     go_quiet (fail)
     go_wp2
     go_quiet (fail)
     go_wp2
     go_ret
     exact ⟨ret_bool HE.out.symm,below_drewN (below_drewN (below_drewN (B_ _ _) _) _) _⟩
   ·obtain rfl:k=ys.length:=by omega
    have HE:=H_ (ltL_end hk (le_ _) (.inr rfl) HJ.out)
    go_wp2
    go_ret
    exact ⟨ret_bool (by rw [HE.out]<;>simp),below_drewN (B_ _ _) _⟩
  ·obtain rfl:k=xs.length:=by omega
   have HE:=H_ (ltL_end (le_ _) hk' (.inl rfl) HJ.out)
   go_wp2
   go_ret
   exact ⟨ret_bool (by rw [HE.out]<;>simp),below_drewN (B_ _ _) _⟩
end Go.Proofs.YtfnnhimopokpnaaGreatDoor
