/- Lemmas for this seat; no condition. -/
import Derived.Test.YtfnnhimopokpnaaGreatDoorHAAI
namespace Go.Proofs.YtfnnhimopokpnaaGreatDoor
open Go.RowKit
set_option maxRecDepth 100000
set_option maxHeartbeats 0
set_option linter.unusedVariables false
def RetD (P:Value→Value→Value→Value→World→Prop) (e:Ending) (w':World):Prop:=∃ a b c d,e=.returned (aggD a b c d)∧P a b c d w'
theorem RetD.mk {P:Value→Value→Value→Value→World→Prop} {e:Ending} {w':World} (a b c d:Value) (h:e=.returned (aggD a b c d)) (hp:P a b c d w'):RetD P e w':=⟨a,b,c,d,h,hp⟩
def Dsk.none:Dsk:=⟨[],[],[],[]⟩
def deskNew (xs ys:List Int):Dsk:=if katV xs&&katV ys then ⟨xs,ys,[],xs⟩ else Dsk.none
abbrev DeskRet (w:World) (D:Dsk):Ending→World→Prop:=RetD fun a b c d w'=>DeskOwn w.heap.size w'.heap.size w' a b c d D∧Below w.heap.size w w'
theorem DeskOwn.nils (lo hi:Nat) (h:lo≤hi) (w:World):DeskOwn lo hi w (.slice none 0 0) (.slice none 0 0) (.slice none 0 0) (.slice none 0 0) Dsk.none:=
 ⟨lo,lo,lo,lo,lo,lo,lo,lo,Own.nil _ _ _ _ _,Own.nil _ _ _ _ _,Own.nil _ _ _ _ _,Own.nil _ _ _ _ _,by omega,by omega,by omega,by omega,by omega,by omega,by omega,by omega,by omega,by omega⟩
theorem spec_DeskNew (lo hi lo' hi':Nat) (v v':Value) (xs ys:List Int) (w:World) (hx:SlI lo hi w v xs) (hy:SlI lo' hi' w v' ys) (hh:hi≤w.heap.size) (hh':hi'≤w.heap.size) (hm:xs.length≤1048576) (hm':ys.length≤1048576) :
  Calls Tryz.prog 74 #[v,v'] w (DeskRet w (deskNew xs ys)):=by
 obtain ⟨w0,hw0⟩:∃ w0,w0=w.alloc (.cells #[.slice none 0 0,.slice none 0 0,.slice none 0 0,.slice none 0 0] 31):=⟨_,rfl⟩
 have HB:Hid (Below w.heap.size w w0):=by rw [hw0];exact H_ ((B_ _ _).alloc (le_ _) _)
 have K1:Hid (Blk w.heap.size (.cells #[.slice none 0 0,.slice none 0 0,.slice none 0 0,.slice none 0 0] 31) w0):=by rw [hw0];exact H_ (Blk.new w _)
 have hsz:w0.heap.size=w.heap.size+1:=by rw [hw0];simp
 have hz1:w.heap.size+1≤w0.heap.size:=by omega
 have hz2:w0.heap.size≤w.heap.size+1:=by omega
 have HX:=H_ (hx.below HB.out hh)
 have HY:=H_ (hy.below HB.out hh')
 clear hx hy hsz
 have HD:=H_ (show deskNew xs ys=if katV xs&&katV ys then ⟨xs,ys,[],xs⟩ else Dsk.none from rfl)
 cases hv:katV xs
 ·go_enter Tryz.func74,Tryz.ntmps74
  go_wp2_with fail
  simp only [←hw0]
  clear hw0
  refine (spec_KatValid _ _ _ xs _ HX.out hm).mono ?_
  rintro e w1 ⟨rfl,rfl⟩
  have c0:=K1.out.cell 0
  have c1:=K1.out.cell 1
  have c2:=K1.out.cell 2
  have c3:=K1.out.cell 3
  have f0:=K1.out.free 0
  have f1:=K1.out.free 1
  have f2:=K1.out.free 2
  have f3:=K1.out.free 3
  obtain ⟨wz,hwz⟩:∃ wz,wz=((((w0.setCell ⟨w.heap.size,0,none⟩ (.slice none 0 0)).setCell ⟨w.heap.size,1,none⟩ (.slice none 0 0)).setCell ⟨w.heap.size,2,none⟩ (.slice none 0 0)).setCell ⟨w.heap.size,3,none⟩ (.slice none 0 0)):=⟨_,rfl⟩
  have KZ:=K1.out.set4 (.slice none 0 0) (.slice none 0 0) (.slice none 0 0) (.slice none 0 0)
  have HO:=Outside.set4 w.heap.size w0 (.slice none 0 0) (.slice none 0 0) (.slice none 0 0) (.slice none 0 0)
  rw [←hwz] at KZ HO
  have hsz:=HO.size
  replace HB:=H_ (Below.outside HB.out HO (le_ _) HB.out.size)
  have HOZ:=H_ HO
  have q0:=KZ.cell 0
  have q1:=KZ.cell 1
  have q2:=KZ.cell 2
  have q3:=KZ.cell 3
  clear KZ HO
  go_wp2
  simp only [←hwz]
  clear hwz c0 c1 c2 c3 f0 f1 f2 f3
  refine bodyPost_ret (v:=aggD (.slice none 0 0) (.slice none 0 0) (.slice none 0 0) (.slice none 0 0)) (by simp [results,Tryz.results74,go_sem,q0,q1,q2,q3]) rfl (RetD.mk _ _ _ _ rfl ⟨?_,HB.out⟩)
  rw [HD.out,hv]
  exact DeskOwn.nils _ _ HB.out.size _
 ·go_enter Tryz.func74,Tryz.ntmps74
  go_wp2_with fail
  simp only [←hw0]
  clear hw0
  refine (spec_KatValid _ _ _ xs _ HX.out hm).mono ?_
  rintro e w1 ⟨rfl,rfl⟩
  cases hv':katV ys
  ·go_wp2_with fail
   refine (spec_KatValid _ _ _ ys _ HY.out hm').mono ?_
   rintro e w1 ⟨rfl,rfl⟩
   have c0:=K1.out.cell 0
   have c1:=K1.out.cell 1
   have c2:=K1.out.cell 2
   have c3:=K1.out.cell 3
   have f0:=K1.out.free 0
   have f1:=K1.out.free 1
   have f2:=K1.out.free 2
   have f3:=K1.out.free 3
   obtain ⟨wz,hwz⟩:∃ wz,wz=((((w0.setCell ⟨w.heap.size,0,none⟩ (.slice none 0 0)).setCell ⟨w.heap.size,1,none⟩ (.slice none 0 0)).setCell ⟨w.heap.size,2,none⟩ (.slice none 0 0)).setCell ⟨w.heap.size,3,none⟩ (.slice none 0 0)):=⟨_,rfl⟩
   have KZ:=K1.out.set4 (.slice none 0 0) (.slice none 0 0) (.slice none 0 0) (.slice none 0 0)
   have HO:=Outside.set4 w.heap.size w0 (.slice none 0 0) (.slice none 0 0) (.slice none 0 0) (.slice none 0 0)
   rw [←hwz] at KZ HO
   have hsz:=HO.size
   replace HB:=H_ (Below.outside HB.out HO (le_ _) HB.out.size)
   have HOZ:=H_ HO
   have q0:=KZ.cell 0
   have q1:=KZ.cell 1
   have q2:=KZ.cell 2
   have q3:=KZ.cell 3
   clear KZ HO
   go_wp2
   simp only [←hwz]
   clear hwz c0 c1 c2 c3 f0 f1 f2 f3
   refine bodyPost_ret (v:=aggD (.slice none 0 0) (.slice none 0 0) (.slice none 0 0) (.slice none 0 0)) (by simp [results,Tryz.results74,go_sem,q0,q1,q2,q3]) rfl (RetD.mk _ _ _ _ rfl ⟨?_,HB.out⟩)
   rw [HD.out,hv,hv']
   exact DeskOwn.nils _ _ HB.out.size _
  ·go_wp2_with fail
   refine (spec_KatValid _ _ _ ys _ HY.out hm').mono ?_
   rintro e w1 ⟨rfl,rfl⟩
   have OE:=H_ (Own.lit 1 3 w0 [] 0 (by omega) rfl)
   have hbe:Below w0.heap.size w0 (w0.alloc (.cells ([]:List Value).toArray 3)):=(B_ _ _).alloc (le_ _) _
   go_wp2_with (at_builtin;refine wpList_app_sl rfl _ _ 22 rfl 3 (.int .i64 0) 1 8 Tryz.underlying22 info_int rfl (by decide) (by decide) rfl OE.out rfl (HX.out.below hbe (by omega)) (ints_one _) ?c1 ?c2 ?_)
   case c1=>omega
   case c2=>simp
   intro v2 w2 ob _ ho _
   have hsA:w0.heap.size≤w2.heap.size:=by have:=ho.size;simp at this;omega
   have hb:Below w0.heap.size w0 w2:=Below.outside hbe ho (le_ _) (by simp)
   have OA:=H_ (show OwnI w0.heap.size w2.heap.size 3 w2 v2 xs from ob)
   obtain ⟨aa,ca,rfl⟩:=Own.shape OA.out
   replace HB:=H_ (HB.out.trans (hb.mono HB.out.size))
   replace K1:=H_ (K1.out.below hb (by omega));replace HX:=H_ (HX.out.below hb (by omega));replace HY:=H_ (HY.out.below hb (by omega))
   clear hb ob ho hbe OE
   have OE:=H_ (Own.lit 1 3 w2 [] 0 (by omega) rfl)
   have hbe:Below w2.heap.size w2 (w2.alloc (.cells ([]:List Value).toArray 3)):=(B_ _ _).alloc (le_ _) _
   go_wp2_with (at_builtin;refine wpList_app_sl rfl _ _ 22 rfl 3 (.int .i64 0) 1 8 Tryz.underlying22 info_int rfl (by decide) (by decide) rfl OE.out rfl (HY.out.below hbe (by omega)) (ints_one _) ?c1 ?c2 ?_)
   case c1=>omega
   case c2=>simp
   intro v2 w3 ob _ ho _
   have hsB:w2.heap.size≤w3.heap.size:=by have:=ho.size;simp at this;omega
   have hb:Below w2.heap.size w2 w3:=Below.outside hbe ho (le_ _) (by simp)
   have OB:=H_ (show OwnI w2.heap.size w3.heap.size 3 w3 v2 ys from ob)
   obtain ⟨ab,cb,rfl⟩:=Own.shape OB.out
   replace HB:=H_ (HB.out.trans (hb.mono HB.out.size))
   replace K1:=H_ (K1.out.below hb (by omega));replace HX:=H_ (HX.out.below hb (by omega));replace HY:=H_ (HY.out.below hb (by omega));replace OA:=H_ (OA.out.below hb (by omega))
   clear hb ob ho hbe OE
   obtain ⟨w4,hw4⟩:∃ w4,w4=w3.alloc (.cells #[] 67):=⟨_,rfl⟩
   have hb:Below w3.heap.size w3 w4:=by rw [hw4];exact (B_ _ _).alloc (le_ _) _
   have hs4:w3.heap.size+1≤w4.heap.size:=by rw [hw4];simp
   have OC:Hid (OwnM w3.heap.size (w3.heap.size+1) 67 w4 (.slice (some ⟨w3.heap.size,0,none⟩) 0 0) []):=by rw [hw4];exact H_ (Own.lit 3 67 w3 [] 0 (by omega) rfl)
   replace HB:=H_ (HB.out.trans (hb.mono HB.out.size))
   replace HX:=H_ (HX.out.below hb (by omega));replace HY:=H_ (HY.out.below hb (by omega));replace OA:=H_ (OA.out.below hb (by omega));replace OB:=H_ (OB.out.below hb (by omega))
   replace K1:=H_ (K1.out.below hb K1.out.lt)
   clear hb
   have OE:Hid (Own 1 (w3.heap.size+1) (w3.heap.size+2) 3 ((w3.alloc (.cells #[] 67)).alloc (.cells #[] 3)) (.slice (some ⟨w3.heap.size+1,0,none⟩) 0 0) 0 []):=by
    have h:=Own.lit 1 3 (w3.alloc (.cells #[] 67)) [] 0 (by omega) rfl
    rw [alloc_size] at h
    exact H_ h
   have hbe:Below w4.heap.size w4 ((w3.alloc (.cells #[] 67)).alloc (.cells #[] 3)):=by rw [hw4];exact (B_ _ _).alloc (le_ _) _
   have hs4':w4.heap.size=w3.heap.size+1:=by rw [hw4];simp
   have HS4:=H_ hs4'
   have HXE:=H_ (HX.out.below hbe (by omega))
   have HBE:=H_ hbe
   clear hw4 hs4' hbe
   go_wp2_with (at_builtin;refine wpList_app_sl rfl _ _ 22 rfl 3 (.int .i64 0) 1 8 Tryz.underlying22 info_int rfl (by decide) (by decide) rfl OE.out rfl HXE.out (ints_one _) ?c1 ?c2 ?_)
   case c1=>omega
   case c2=>simp
   intro v2 w5 ob _ ho _
   have hs4':=HS4.out
   have hsD:w4.heap.size≤w5.heap.size:=by have:=ho.size;simp at this;omega
   have hb:Below w4.heap.size w4 w5:=Below.outside HBE.out ho (by omega) (by simp;omega)
   have OD:=H_ (show OwnI (w3.heap.size+1) w5.heap.size 3 w5 v2 xs from ob)
   obtain ⟨ad,cd,rfl⟩:=Own.shape OD.out
   replace HB:=H_ (HB.out.trans (hb.mono HB.out.size))
   replace K1:=H_ (K1.out.below hb (by omega));replace OA:=H_ (OA.out.below hb (by omega));replace OB:=H_ (OB.out.below hb (by omega));replace OC:=H_ (OC.out.below hb (by omega))
   clear hb ob ho HBE HXE OE hs4'
   have c0:=K1.out.cell 0
   have c1:=K1.out.cell 1
   have c2:=K1.out.cell 2
   have c3:=K1.out.cell 3
   have f0:=K1.out.free 0
   have f1:=K1.out.free 1
   have f2:=K1.out.free 2
   have f3:=K1.out.free 3
   obtain ⟨wz,hwz⟩:∃ wz,wz=((((w5.setCell ⟨w.heap.size,0,none⟩ (.slice aa xs.length ca)).setCell ⟨w.heap.size,1,none⟩ (.slice ab ys.length cb)).setCell ⟨w.heap.size,2,none⟩ (.slice (some ⟨w3.heap.size,0,none⟩) 0 0)).setCell ⟨w.heap.size,3,none⟩ (.slice ad xs.length cd)):=⟨_,rfl⟩
   have KZ:=K1.out.set4 (.slice aa xs.length ca) (.slice ab ys.length cb) (.slice (some ⟨w3.heap.size,0,none⟩) 0 0) (.slice ad xs.length cd)
   have HO:=Outside.set4 w.heap.size w5 (.slice aa xs.length ca) (.slice ab ys.length cb) (.slice (some ⟨w3.heap.size,0,none⟩) 0 0) (.slice ad xs.length cd)
   rw [←hwz] at KZ HO
   have hsz:=HO.size
   replace HB:=H_ (Below.outside HB.out HO (le_ _) HB.out.size)
   have HOZ:=H_ HO
   have q0:=KZ.cell 0
   have q1:=KZ.cell 1
   have q2:=KZ.cell 2
   have q3:=KZ.cell 3
   clear KZ HO
   go_wp2
   simp only [←hwz]
   clear hwz c0 c1 c2 c3 f0 f1 f2 f3
   refine bodyPost_ret (v:=aggD (.slice aa xs.length ca) (.slice ab ys.length cb) (.slice (some ⟨w3.heap.size,0,none⟩) 0 0) (.slice ad xs.length cd)) (by simp [results,Tryz.results74,go_sem,q0,q1,q2,q3]) rfl (RetD.mk _ _ _ _ rfl ⟨?_,HB.out⟩)
   rw [HD.out,hv,hv']
   exact ⟨_,_,_,_,_,_,_,_,OA.out.outside HOZ.out (.inr (by omega)),OB.out.outside HOZ.out (.inr (by omega)),OC.out.outside HOZ.out (.inr (by omega)),OD.out.outside HOZ.out (.inr (by omega)),by omega,by omega,by omega,by omega,by omega,by omega,by omega,by omega,by omega,by omega⟩
def deskV (D:Dsk):Bool:=match proofV D.first D.made with | some x=>katV D.goal&&eqL x D.now | none=>false
theorem impl_DeskValid (lo hi:Nat) (a b c d:Value) (D:Dsk) (w:World) (hE:EnvK w) (hx:DeskAt lo hi w a b c d D) (hh:hi≤w.heap.size) (hm:D.size≤1048576) :
  Calls Tryz.prog 27 #[aggD a b c d] w fun e w'=>e=.returned (.bool (deskV D))∧Below w.heap.size w w':=by
 unfold Dsk.size at hm
 obtain ⟨w0,hw0⟩:∃ w0,w0=w.alloc (.cells #[a,b,c,d] 31):=⟨_,rfl⟩
 have HB:Hid (Below w.heap.size w w0):=by rw [hw0];exact H_ ((B_ _ _).alloc (le_ _) _)
 have K:Hid (Blk w.heap.size (.cells #[a,b,c,d] 31) w0):=by rw [hw0];exact H_ (Blk.new w _)
 have HX:=H_ (hx.below HB.out hh)
 have hsz:w.heap.size+1≤w0.heap.size:=by rw [hw0];simp
 have HW0:=H_ hw0
 have HE:=H_ hE
 have k0:=K.out.cell 0
 have k2:=K.out.cell 2
 clear hx hE hw0
 go_enter Tryz.func27,Tryz.ntmps27
 go_wp2_with (rw [←HW0.out])
 refine (impl_ProofRun _ _ _ _ _ _ D.first D.made _ (HE.out.below HB.out) HX.out.first (by omega) HX.out.made (by omega)).mono ?_
 rintro e w1 ⟨v1,_,rfl,hb,rfl,ho⟩
 replace K:=H_ (K.out.below hb (by omega))
 replace HX:=H_ (HX.out.below hb (by omega))
 have hs1:=hb.size
 replace HB:=H_ (HB.out.trans (hb.mono (by omega)))
 clear hb k0 k2
 have k1:=K.out.cell 1
 have k3:=K.out.cell 3
 cases hp:proofV D.first D.made with
 | none=>
  have HR:Hid (deskV D=false):=H_ (by simp [deskV,hp])
  rw [hp] at ho
  obtain ⟨a1,c1,rfl,_⟩:=Own.open ho
  clear hp ho
  simp only [Option.isSome_none]
  go_wp2
  go_ret
  exact ⟨by rw [HR.out];rfl,HB.out⟩
 | some x=>
  rw [hp] at ho
  have HO:=H_ ho
  obtain ⟨a1,c1,rfl,_⟩:=Own.open ho
  have hx40:=(kat_len (proofV_kat hp)).2
  have HR:Hid (deskV D=(katV D.goal&&eqL x D.now)):=H_ (by simp [deskV,hp])
  clear hp ho
  simp only [Option.isSome_some,Option.getD_some]
  go_wp2_with fail
  refine (impl_KatValid _ _ _ D.goal _ HX.out.goal (by omega)).mono ?_
  rintro e w2 ⟨rfl,rfl⟩
  cases hk:katV D.goal
  ·rw [hk] at HR
   clear hk
   go_wp2
   go_ret
   exact ⟨by rw [HR.out];rfl,HB.out⟩
  ·rw [hk] at HR
   clear hk
   go_wp2_with fail
   refine (slEq_any _ _ _ _ _ _ x D.now _ HO.out.sl HX.out.now).mono ?_
   rintro e w3 ⟨rfl,hb⟩
   replace HB:=H_ (HB.out.trans (hb.mono HB.out.size))
   clear hb
   go_wp2
   go_ret
   exact ⟨by rw [HR.out];rfl,HB.out⟩
theorem spec_DeskValid (lo hi:Nat) (a b c d:Value) (D:Dsk) (w:World) (hx:DeskAt lo hi w a b c d D) (hh:hi≤w.heap.size) (hm:D.size≤1048576) :
  Calls Tryz.prog 23 #[aggD a b c d] w fun e w'=>e=.returned (.bool (deskV D))∧Below w.heap.size w w':=by
 unfold Dsk.size at hm
 obtain ⟨w0,hw0⟩:∃ w0,w0=w.alloc (.cells #[a,b,c,d] 31):=⟨_,rfl⟩
 have HB:Hid (Below w.heap.size w w0):=by rw [hw0];exact H_ ((B_ _ _).alloc (le_ _) _)
 have K:Hid (Blk w.heap.size (.cells #[a,b,c,d] 31) w0):=by rw [hw0];exact H_ (Blk.new w _)
 have HX:=H_ (hx.below HB.out hh)
 have hsz:w.heap.size+1≤w0.heap.size:=by rw [hw0];simp
 have HW0:=H_ hw0
 clear hw0
 have k0:=K.out.cell 0
 have k2:=K.out.cell 2
 clear hx
 go_enter Tryz.func23,Tryz.ntmps23
 go_wp2_with (rw [←HW0.out])
 refine (spec_ProofRun _ _ _ _ _ _ D.first D.made _ HX.out.first (by omega) HX.out.made (by omega)).mono ?_
 rintro e w1 ⟨v1,_,rfl,hb,rfl,ho⟩
 replace K:=H_ (K.out.below hb (by omega))
 replace HX:=H_ (HX.out.below hb (by omega))
 have hs1:=hb.size
 replace HB:=H_ (HB.out.trans (hb.mono (by omega)))
 clear hb k0 k2
 have k1:=K.out.cell 1
 have k3:=K.out.cell 3
 cases hp:proofV D.first D.made with
 | none=>
  have HR:Hid (deskV D=false):=H_ (by simp [deskV,hp])
  rw [hp] at ho
  obtain ⟨a1,c1,rfl,_⟩:=Own.open ho
  clear hp ho
  simp only [Option.isSome_none]
  go_wp2
  go_ret
  exact ⟨by rw [HR.out];rfl,HB.out⟩
 | some x=>
  rw [hp] at ho
  have HO:=H_ ho
  obtain ⟨a1,c1,rfl,_⟩:=Own.open ho
  have hx40:=(kat_len (proofV_kat hp)).2
  have HR:Hid (deskV D=(katV D.goal&&eqL x D.now)):=H_ (by simp [deskV,hp])
  clear hp ho
  simp only [Option.isSome_some,Option.getD_some]
  go_wp2_with fail
  refine (spec_KatValid _ _ _ D.goal _ HX.out.goal (by omega)).mono ?_
  rintro e w2 ⟨rfl,rfl⟩
  cases hk:katV D.goal
  ·rw [hk] at HR
   clear hk
   go_wp2
   go_ret
   exact ⟨by rw [HR.out];rfl,HB.out⟩
  ·rw [hk] at HR
   clear hk
   go_wp2_with fail
   refine (l1Same_any _ _ _ _ _ _ x D.now _ HO.out.sl HX.out.now (by omega) (by omega)).mono ?_
   rintro e w3 ⟨rfl,hb⟩
   replace HB:=H_ (HB.out.trans (hb.mono HB.out.size))
   clear hb
   go_wp2
   go_ret
   exact ⟨by rw [HR.out];rfl,HB.out⟩
theorem impl_DeskDone (lo hi:Nat) (a b c d:Value) (D:Dsk) (w:World) (hE:EnvK w) (hx:DeskAt lo hi w a b c d D) (hh:hi≤w.heap.size) (hm:D.size≤1048576) :
  Calls Tryz.prog 89 #[aggD a b c d] w fun e w'=>e=.returned (.bool (deskV D&&eqL D.now D.goal))∧Below w.heap.size w w':=by
 have hmm:=hm
 unfold Dsk.size at hm
 obtain ⟨w0,hw0⟩:∃ w0,w0=w.alloc (.cells #[a,b,c,d] 31):=⟨_,rfl⟩
 have HB:Hid (Below w.heap.size w w0):=by rw [hw0];exact H_ ((B_ _ _).alloc (le_ _) _)
 have K:Hid (Blk w.heap.size (.cells #[a,b,c,d] 31) w0):=by rw [hw0];exact H_ (Blk.new w _)
 have HX:=H_ (hx.below HB.out hh)
 have hsz:w.heap.size+1≤w0.heap.size:=by rw [hw0];simp
 have HW0:=H_ hw0
 have HE:=H_ hE
 have k0:=K.out.cell 0
 have k1:=K.out.cell 1
 have k2:=K.out.cell 2
 have k3:=K.out.cell 3
 clear hx hE hw0
 go_enter Tryz.func89,Tryz.ntmps89
 go_wp2_with (rw [←HW0.out])
 refine (impl_DeskValid _ _ a b c d D _ (HE.out.below HB.out) HX.out (by omega) hmm).mono ?_
 rintro e w1 ⟨rfl,hb⟩
 replace K:=H_ (K.out.below hb (by omega))
 replace HX:=H_ (HX.out.below hb (by omega))
 have hs1:=hb.size
 replace HB:=H_ (HB.out.trans (hb.mono (by omega)))
 clear hb k0 k1 k2 k3
 have k1:=K.out.cell 1
 have k3:=K.out.cell 3
 cases hv:deskV D
 ·have HV:=H_ hv
  clear hv
  go_wp2
  go_ret
  exact ⟨by rw [HV.out];rfl,HB.out⟩
 ·have HV:=H_ hv
  clear hv
  go_wp2_with fail
  refine (slEq_any _ _ _ _ _ _ D.now D.goal _ HX.out.now HX.out.goal).mono ?_
  rintro e w3 ⟨rfl,hb⟩
  replace HB:=H_ (HB.out.trans (hb.mono HB.out.size))
  clear hb
  go_wp2
  go_ret
  exact ⟨by rw [HV.out];rfl,HB.out⟩
theorem spec_DeskDone (lo hi:Nat) (a b c d:Value) (D:Dsk) (w:World) (hx:DeskAt lo hi w a b c d D) (hh:hi≤w.heap.size) (hm:D.size≤1048576) :
  Calls Tryz.prog 55 #[aggD a b c d] w fun e w'=>e=.returned (.bool (deskV D&&eqL D.now D.goal))∧Below w.heap.size w w':=by
 have hmm:=hm
 unfold Dsk.size at hm
 obtain ⟨w0,hw0⟩:∃ w0,w0=w.alloc (.cells #[a,b,c,d] 31):=⟨_,rfl⟩
 have HB:Hid (Below w.heap.size w w0):=by rw [hw0];exact H_ ((B_ _ _).alloc (le_ _) _)
 have K:Hid (Blk w.heap.size (.cells #[a,b,c,d] 31) w0):=by rw [hw0];exact H_ (Blk.new w _)
 have HX:=H_ (hx.below HB.out hh)
 have hsz:w.heap.size+1≤w0.heap.size:=by rw [hw0];simp
 have HW0:=H_ hw0
 clear hw0
 have k0:=K.out.cell 0
 have k1:=K.out.cell 1
 have k2:=K.out.cell 2
 have k3:=K.out.cell 3
 clear hx
 go_enter Tryz.func55,Tryz.ntmps55
 go_wp2_with (rw [←HW0.out])
 refine (spec_DeskValid _ _ a b c d D _ HX.out (by omega) hmm).mono ?_
 rintro e w1 ⟨rfl,hb⟩
 replace K:=H_ (K.out.below hb (by omega))
 replace HX:=H_ (HX.out.below hb (by omega))
 have hs1:=hb.size
 replace HB:=H_ (HB.out.trans (hb.mono (by omega)))
 clear hb k0 k1 k2 k3
 have k1:=K.out.cell 1
 have k3:=K.out.cell 3
 cases hv:deskV D
 ·have HV:=H_ hv
  clear hv
  go_wp2
  go_ret
  exact ⟨by rw [HV.out];rfl,HB.out⟩
 ·have HV:=H_ hv
  clear hv
  go_wp2_with fail
  refine (l1Same_any _ _ _ _ _ _ D.now D.goal _ HX.out.now HX.out.goal (by omega) (by omega)).mono ?_
  rintro e w3 ⟨rfl,hb⟩
  replace HB:=H_ (HB.out.trans (hb.mono HB.out.size))
  clear hb
  go_wp2
  go_ret
  exact ⟨by rw [HV.out];rfl,HB.out⟩
theorem szIntS_any (n:Nat) (a:Option Addr) (cap:Nat) (k r:Int) (hn:n≤9223372036854775807) (hk:k≤1048576) (hk2:-1≤k) (h1:k-n<0→r=-1) (h2:0≤k-n→r=k-n) (w:World) :
  Calls Tryz.prog 32 #[.slice a n cap,.int .i64 k] w fun e w'=>e=.returned (.int .i64 r)∧w=w':=by
 by_cases h:k-n<0
 ·obtain rfl:=h1 h
  go_enter Tryz.func32,Tryz.ntmps32
  go_wp2
  go_ret
  exact ⟨rfl,rfl⟩
 ·obtain rfl:=h2 (by omega)
  go_enter Tryz.func32,Tryz.ntmps32
  go_wp2
  go_ret
  exact ⟨rfl,rfl⟩
theorem box_facts {w w0:World} {o:Obj} (h:w0=w.alloc o):Below w.heap.size w w0∧Blk w.heap.size o w0∧w.heap.size+1≤w0.heap.size:=by
 subst h
 exact ⟨(B_ _ _).alloc (le_ _) _,Blk.new w o,by simp⟩
theorem DeskAt.shapes {lo hi:Nat} {w:World} {a b c d:Value} {D:Dsk} (h:DeskAt lo hi w a b c d D) :
  ∃ a1 a2 b1 b2 c1 c2 d1 d2,a=.slice a1 D.first.length a2∧b=.slice b1 D.goal.length b2∧c=.slice c1 D.made.length c2∧d=.slice d1 D.now.length d2∧D.first.length≤9223372036854775807∧D.goal.length≤9223372036854775807∧D.made.length≤9223372036854775807∧D.now.length≤9223372036854775807:=by
 obtain ⟨a1,a2,ha,ha1,ha2⟩:=Sl.shape h.first
 obtain ⟨b1,b2,hb,hb1,hb2⟩:=Sl.shape h.goal
 obtain ⟨c1,c2,hc,hc1,hc2⟩:=h.made.shape
 obtain ⟨d1,d2,hd,hd1,hd2⟩:=Sl.shape h.now
 unfold maxLen at ha2 hb2 hc2 hd2
 exact ⟨a1,a2,b1,b2,c1,c2,d1,d2,ha,hb,hc,hd,by omega,by omega,by omega,by omega⟩
theorem szDesk_any (lo hi:Nat) (a b c d:Value) (D:Dsk) (r:Int) (w:World) (hx:DeskAt lo hi w a b c d D) (h1:1048576<D.size→r=-1) (h2:D.size≤1048576→r=1048576-(D.size:Int)) :
  Calls Tryz.prog 7 #[aggD a b c d,.int .i64 1048576] w fun e w'=>e=.returned (.int .i64 r)∧Below w.heap.size w w':=by
 obtain ⟨a1,a2,b1,b2,c1,c2,d1,d2,rfl,rfl,rfl,rfl,l1,l2,l3,l4⟩:=hx.shapes
 obtain ⟨F,G,M,N⟩:=D
 simp only [Dsk.size] at h1 h2 l1 l2 l3 l4 ⊢
 generalize F.length=n1 at *
 generalize G.length=n2 at *
 generalize M.length=n3 at *
 generalize N.length=n4 at *
 have HB:=H_ ((B_ w.heap.size w).alloc (le_ _) (.cells #[.slice a1 n1 a2,.slice b1 n2 b2,.slice c1 n3 c2,.slice d1 n4 d2] 25))
 clear hx
 by_cases s1:n1≤1048576
 ·by_cases s2:n1+n2≤1048576
  ·by_cases s3:n1+n2+n3≤1048576
   ·obtain ⟨r1,hr1⟩:∃ r1:Int,r1=1048576-(n1:Int):=⟨_,rfl⟩
    obtain ⟨r2,hr2⟩:∃ r2:Int,r2=1048576-(n1:Int)-n2:=⟨_,rfl⟩
    obtain ⟨r3,hr3⟩:∃ r3:Int,r3=1048576-(n1:Int)-n2-n3:=⟨_,rfl⟩
    have e1:¬r1<0:=by omega
    have e2:¬r2<0:=by omega
    have e3:¬r3<0:=by omega
    have A1:=H_ (fun wx=>szIntS_any n1 a1 a2 1048576 r1 l1 (by omega) (by omega) (by omega) (by omega) wx)
    have A2:=H_ (fun wx=>szIntS_any n2 b1 b2 r1 r2 l2 (by omega) (by omega) (by omega) (by omega) wx)
    have A3:=H_ (fun wx=>szMoveS_any n3 c1 c2 r2 r3 l3 (by omega) (by omega) (by omega) (by omega) wx)
    have A4:=H_ (fun wx=>szIntS_any n4 d1 d2 r3 r l4 (by omega) (by omega) (by omega) (by omega) wx)
    have hcase:r<0∧r=-1∨¬r<0:=by omega
    clear hr1 hr2 hr3 h1 h2
    rcases hcase with ⟨hneg,hr⟩|hneg
    ·subst hr
     go_enter Tryz.func7,Tryz.ntmps7
     go_wp2_with fail
     refine (A1.out _).mono ?_
     rintro e1_ wx ⟨rfl,rfl⟩
     go_wp2_with fail
     refine (A2.out _).mono ?_
     rintro e2_ wx ⟨rfl,rfl⟩
     go_wp2_with fail
     refine (A3.out _).mono ?_
     rintro e3_ wx ⟨rfl,rfl⟩
     go_wp2_with fail
     refine (A4.out _).mono ?_
     rintro e4_ wx ⟨rfl,rfl⟩
     go_wp2
     go_ret
     exact ⟨rfl,HB.out⟩
    ·go_enter Tryz.func7,Tryz.ntmps7
     go_wp2_with fail
     refine (A1.out _).mono ?_
     rintro e1_ wx ⟨rfl,rfl⟩
     go_wp2_with fail
     refine (A2.out _).mono ?_
     rintro e2_ wx ⟨rfl,rfl⟩
     go_wp2_with fail
     refine (A3.out _).mono ?_
     rintro e3_ wx ⟨rfl,rfl⟩
     go_wp2_with fail
     refine (A4.out _).mono ?_
     rintro e4_ wx ⟨rfl,rfl⟩
     go_wp2
     go_ret
     exact ⟨rfl,HB.out⟩
   ·obtain rfl:=h1 (by omega)
    obtain ⟨r1,hr1⟩:∃ r1:Int,r1=1048576-(n1:Int):=⟨_,rfl⟩
    obtain ⟨r2,hr2⟩:∃ r2:Int,r2=1048576-(n1:Int)-n2:=⟨_,rfl⟩
    have e1:¬r1<0:=by omega
    have e2:¬r2<0:=by omega
    have A1:=H_ (fun wx=>szIntS_any n1 a1 a2 1048576 r1 l1 (by omega) (by omega) (by omega) (by omega) wx)
    have A2:=H_ (fun wx=>szIntS_any n2 b1 b2 r1 r2 l2 (by omega) (by omega) (by omega) (by omega) wx)
    have A3:=H_ (fun wx=>szMoveS_any n3 c1 c2 r2 (-1) l3 (by omega) (by omega) (by omega) (by omega) wx)
    clear hr1 hr2 h1 h2
    go_enter Tryz.func7,Tryz.ntmps7
    go_wp2_with fail
    refine (A1.out _).mono ?_
    rintro e1_ wx ⟨rfl,rfl⟩
    go_wp2_with fail
    refine (A2.out _).mono ?_
    rintro e2_ wx ⟨rfl,rfl⟩
    go_wp2_with fail
    refine (A3.out _).mono ?_
    rintro e3_ wx ⟨rfl,rfl⟩
    go_wp2
    go_ret
    exact ⟨rfl,HB.out⟩
  ·obtain rfl:=h1 (by omega)
   obtain ⟨r1,hr1⟩:∃ r1:Int,r1=1048576-(n1:Int):=⟨_,rfl⟩
   have e1:¬r1<0:=by omega
   have A1:=H_ (fun wx=>szIntS_any n1 a1 a2 1048576 r1 l1 (by omega) (by omega) (by omega) (by omega) wx)
   have A2:=H_ (fun wx=>szIntS_any n2 b1 b2 r1 (-1) l2 (by omega) (by omega) (by omega) (by omega) wx)
   clear hr1 h1 h2
   go_enter Tryz.func7,Tryz.ntmps7
   go_wp2_with fail
   refine (A1.out _).mono ?_
   rintro e1_ wx ⟨rfl,rfl⟩
   go_wp2_with fail
   refine (A2.out _).mono ?_
   rintro e2_ wx ⟨rfl,rfl⟩
   go_wp2
   go_ret
   exact ⟨rfl,HB.out⟩
 ·obtain rfl:=h1 (by omega)
  have A1:=H_ (fun wx=>szIntS_any n1 a1 a2 1048576 (-1) l1 (by omega) (by omega) (by omega) (by omega) wx)
  clear h1 h2
  go_enter Tryz.func7,Tryz.ntmps7
  go_wp2_with fail
  refine (A1.out _).mono ?_
  rintro e1_ wx ⟨rfl,rfl⟩
  go_wp2
  go_ret
  exact ⟨rfl,HB.out⟩
theorem toDesk_any (lo hi:Nat) (a b c d:Value) (D:Dsk) (w:World) (hx:DeskAt lo hi w a b c d D) (hh:hi≤w.heap.size) (hm:D.size≤1048576) :
  Calls Tryz.prog 10 #[aggD a b c d] w fun e w'=>∃ a' b' c' d',e=.returned (aggD a' b' c' d')∧Below w.heap.size w w'∧DeskOwn w.heap.size w'.heap.size w' a' b' c' d' D:=by
 unfold Dsk.size at hm
 obtain ⟨w0,hw0⟩:∃ w0,w0=((w.alloc (.cells #[a,b,c,d] 25)).alloc (.cells #[.slice none 0 0,.slice none 0 0,.slice none 0 0,.slice none 0 0] 31)).alloc (.cells #[.slice none 0 0,.slice none 0 0,.slice none 0 0,.slice none 0 0] 31):=⟨_,rfl⟩
 have hb0:Below w.heap.size w w0:=by rw [hw0];exact (((B_ _ _).alloc (le_ _) _).alloc (by simp) _).alloc (by simp;omega) _
 have hs0:w0.heap.size=w.heap.size+3:=by rw [hw0];simp
 have K1:Hid (Blk w.heap.size (.cells #[a,b,c,d] 25) w0):=by
  rw [hw0]
  exact H_ ((Blk.new w _).below (((B_ (w.alloc _).heap.size _).alloc (le_ _) _).alloc (by simp) _) (by simp))
 have K2:Hid (Blk (w.heap.size+1) (.cells #[.slice none 0 0,.slice none 0 0,.slice none 0 0,.slice none 0 0] 31) w0):=by
  have h:=(Blk.new (w.alloc (.cells #[a,b,c,d] 25)) (.cells #[.slice none 0 0,.slice none 0 0,.slice none 0 0,.slice none 0 0] 31)).below ((B_ _ _).alloc (le_ _) (.cells #[.slice none 0 0,.slice none 0 0,.slice none 0 0,.slice none 0 0] 31)) (by simp)
  rw [alloc_size] at h
  rw [hw0];exact H_ h
 have K3:Hid (Blk (w.heap.size+2) (.cells #[.slice none 0 0,.slice none 0 0,.slice none 0 0,.slice none 0 0] 31) w0):=by
  have h:=Blk.new ((w.alloc (.cells #[a,b,c,d] 25)).alloc (.cells #[.slice none 0 0,.slice none 0 0,.slice none 0 0,.slice none 0 0] 31)) (.cells #[.slice none 0 0,.slice none 0 0,.slice none 0 0,.slice none 0 0] 31)
  rw [alloc_size,alloc_size] at h
  rw [hw0];exact H_ h
 have HX:=H_ (hx.below hb0 hh)
 have HB:=H_ hb0
 have HW0:=H_ hw0
 clear hx hb0 hw0
 have p0:=K1.out.cell 0
 go_enter Tryz.func10,Tryz.ntmps10
 go_wp2_with (rw [←HW0.out])
 refine (toIntS_any _ _ _ D.first _ HX.out.first (by omega)).mono ?_
 rintro e0_ w0a ⟨v0,rfl,hb,ho⟩
 have hs0a:=hb.size
 have hsB0:=HB.out.size
 replace K1:=H_ (K1.out.below hb (by omega))
 replace K2:=H_ (K2.out.below hb (by omega))
 replace K3:=H_ (K3.out.below hb (by omega))
 replace HX:=H_ (HX.out.below hb (by omega))
 replace HB:=H_ (HB.out.trans (hb.mono (by omega)))
 obtain ⟨x0,y0,rfl,_⟩:=Own.open ho
 obtain ⟨w1,hw⟩:∃ w_,w_=w0a.setCell ⟨w.heap.size+2,0,none⟩ (.slice x0 D.first.length y0):=⟨_,rfl⟩
 have q0:=K3.out.cell 0
 have f0:=K3.out.free 0
 have ho2:=Outside.put (w.heap.size+2) 0 w0a (.slice x0 D.first.length y0)
 rw [←hw] at ho2
 have hs1:=ho2.size
 have K3n:=H_ (show Blk (w.heap.size+2) (.cells #[(.slice x0 D.first.length y0),.slice none 0 0,.slice none 0 0,.slice none 0 0] 31) w1 by rw [hw];exact K3.out.put 0 (.slice x0 D.first.length y0))
 replace K1:=H_ (K1.out.outside ho2 (.inl (by omega)))
 replace K2:=H_ (K2.out.outside ho2 (.inl (by omega)))
 replace HX:=H_ (HX.out.outside ho2 (.inl (by omega)))
 replace HB:=H_ (Below.outside HB.out ho2 (by omega) (by omega))
 have O0:=H_ (ho.outside ho2 (.inr (by omega)))
 have HW:=H_ hw
 clear hb ho ho2 hw p0
 have p0:=K1.out.cell 1
 go_wp2_with (rw [←HW.out])
 clear K3 q0 f0 HW
 have K3:=K3n
 clear K3n
 refine (toIntS_any _ _ _ D.goal _ HX.out.goal (by omega)).mono ?_
 rintro e1_ w1a ⟨v1,rfl,hb,ho⟩
 have hs1a:=hb.size
 have hsB1:=HB.out.size
 replace K1:=H_ (K1.out.below hb (by omega))
 replace K2:=H_ (K2.out.below hb (by omega))
 replace K3:=H_ (K3.out.below hb (by omega))
 replace HX:=H_ (HX.out.below hb (by omega))
 replace HB:=H_ (HB.out.trans (hb.mono (by omega)))
 replace O0:=H_ (O0.out.below hb (by omega))
 obtain ⟨x1,y1,rfl,_⟩:=Own.open ho
 obtain ⟨w2,hw⟩:∃ w_,w_=w1a.setCell ⟨w.heap.size+2,1,none⟩ (.slice x1 D.goal.length y1):=⟨_,rfl⟩
 have q0:=K3.out.cell 1
 have f0:=K3.out.free 1
 have ho2:=Outside.put (w.heap.size+2) 1 w1a (.slice x1 D.goal.length y1)
 rw [←hw] at ho2
 have hs2:=ho2.size
 have K3n:=H_ (show Blk (w.heap.size+2) (.cells #[(.slice x0 D.first.length y0),(.slice x1 D.goal.length y1),.slice none 0 0,.slice none 0 0] 31) w2 by rw [hw];exact K3.out.put 1 (.slice x1 D.goal.length y1))
 replace K1:=H_ (K1.out.outside ho2 (.inl (by omega)))
 replace K2:=H_ (K2.out.outside ho2 (.inl (by omega)))
 replace HX:=H_ (HX.out.outside ho2 (.inl (by omega)))
 replace HB:=H_ (Below.outside HB.out ho2 (by omega) (by omega))
 replace O0:=H_ (O0.out.outside ho2 (.inr (by omega)))
 have O1:=H_ (ho.outside ho2 (.inr (by omega)))
 have HW:=H_ hw
 clear hb ho ho2 hw p0
 have p0:=K1.out.cell 2
 go_wp2_with (rw [←HW.out])
 clear K3 q0 f0 HW
 have K3:=K3n
 clear K3n
 refine (toMoveS_any _ _ _ D.made _ HX.out.made (by omega) (by omega)).mono ?_
 rintro e2_ w2a ⟨v2,rfl,hb,ho⟩
 have hs2a:=hb.size
 have hsB2:=HB.out.size
 replace K1:=H_ (K1.out.below hb (by omega))
 replace K2:=H_ (K2.out.below hb (by omega))
 replace K3:=H_ (K3.out.below hb (by omega))
 replace HX:=H_ (HX.out.below hb (by omega))
 replace HB:=H_ (HB.out.trans (hb.mono (by omega)))
 replace O0:=H_ (O0.out.below hb (by omega))
 replace O1:=H_ (O1.out.below hb (by omega))
 obtain ⟨x2,y2,rfl,_⟩:=Own.open ho
 obtain ⟨w3,hw⟩:∃ w_,w_=w2a.setCell ⟨w.heap.size+2,2,none⟩ (.slice x2 D.made.length y2):=⟨_,rfl⟩
 have q0:=K3.out.cell 2
 have f0:=K3.out.free 2
 have ho2:=Outside.put (w.heap.size+2) 2 w2a (.slice x2 D.made.length y2)
 rw [←hw] at ho2
 have hs3:=ho2.size
 have K3n:=H_ (show Blk (w.heap.size+2) (.cells #[(.slice x0 D.first.length y0),(.slice x1 D.goal.length y1),(.slice x2 D.made.length y2),.slice none 0 0] 31) w3 by rw [hw];exact K3.out.put 2 (.slice x2 D.made.length y2))
 replace K1:=H_ (K1.out.outside ho2 (.inl (by omega)))
 replace K2:=H_ (K2.out.outside ho2 (.inl (by omega)))
 replace HX:=H_ (HX.out.outside ho2 (.inl (by omega)))
 replace HB:=H_ (Below.outside HB.out ho2 (by omega) (by omega))
 replace O0:=H_ (O0.out.outside ho2 (.inr (by omega)))
 replace O1:=H_ (O1.out.outside ho2 (.inr (by omega)))
 have O2:=H_ (ho.outside ho2 (.inr (by omega)))
 have HW:=H_ hw
 clear hb ho ho2 hw p0
 have p0:=K1.out.cell 3
 go_wp2_with (rw [←HW.out])
 clear K3 q0 f0 HW
 have K3:=K3n
 clear K3n
 refine (toIntS_any _ _ _ D.now _ HX.out.now (by omega)).mono ?_
 rintro e3_ w3a ⟨v3,rfl,hb,ho⟩
 have hs3a:=hb.size
 have hsB3:=HB.out.size
 replace K1:=H_ (K1.out.below hb (by omega))
 replace K2:=H_ (K2.out.below hb (by omega))
 replace K3:=H_ (K3.out.below hb (by omega))
 replace HX:=H_ (HX.out.below hb (by omega))
 replace HB:=H_ (HB.out.trans (hb.mono (by omega)))
 replace O0:=H_ (O0.out.below hb (by omega))
 replace O1:=H_ (O1.out.below hb (by omega))
 replace O2:=H_ (O2.out.below hb (by omega))
 obtain ⟨x3,y3,rfl,_⟩:=Own.open ho
 obtain ⟨w4,hw⟩:∃ w_,w_=w3a.setCell ⟨w.heap.size+2,3,none⟩ (.slice x3 D.now.length y3):=⟨_,rfl⟩
 have q0:=K3.out.cell 3
 have f0:=K3.out.free 3
 have ho2:=Outside.put (w.heap.size+2) 3 w3a (.slice x3 D.now.length y3)
 rw [←hw] at ho2
 have hs4:=ho2.size
 have K3n:=H_ (show Blk (w.heap.size+2) (.cells #[(.slice x0 D.first.length y0),(.slice x1 D.goal.length y1),(.slice x2 D.made.length y2),(.slice x3 D.now.length y3)] 31) w4 by rw [hw];exact K3.out.put 3 (.slice x3 D.now.length y3))
 replace K1:=H_ (K1.out.outside ho2 (.inl (by omega)))
 replace K2:=H_ (K2.out.outside ho2 (.inl (by omega)))
 replace HX:=H_ (HX.out.outside ho2 (.inl (by omega)))
 replace HB:=H_ (Below.outside HB.out ho2 (by omega) (by omega))
 replace O0:=H_ (O0.out.outside ho2 (.inr (by omega)))
 replace O1:=H_ (O1.out.outside ho2 (.inr (by omega)))
 replace O2:=H_ (O2.out.outside ho2 (.inr (by omega)))
 have O3:=H_ (ho.outside ho2 (.inr (by omega)))
 have HW:=H_ hw
 clear hb ho ho2 hw p0
 have p0:=K1.out.cell 3
 have m0:=K3n.out.cell 0
 have m1:=K3n.out.cell 1
 have m2:=K3n.out.cell 2
 have m3:=K3n.out.cell 3
 have r0:=K2.out.cell 0
 have r1:=K2.out.cell 1
 have r2:=K2.out.cell 2
 have r3:=K2.out.cell 3
 have g0:=K2.out.free 0
 have g1:=K2.out.free 1
 have g2:=K2.out.free 2
 have g3:=K2.out.free 3
 obtain ⟨wz,hwz⟩:∃ wz,wz=(((w4.setCell ⟨w.heap.size+1,0,none⟩ (.slice x0 D.first.length y0)).setCell ⟨w.heap.size+1,1,none⟩ (.slice x1 D.goal.length y1)).setCell ⟨w.heap.size+1,2,none⟩ (.slice x2 D.made.length y2)).setCell ⟨w.heap.size+1,3,none⟩ (.slice x3 D.now.length y3):=⟨_,rfl⟩
 have KZ:=K2.out.set4 (.slice x0 D.first.length y0) (.slice x1 D.goal.length y1) (.slice x2 D.made.length y2) (.slice x3 D.now.length y3)
 have hO:=Outside.set4 (w.heap.size+1) w4 (.slice x0 D.first.length y0) (.slice x1 D.goal.length y1) (.slice x2 D.made.length y2) (.slice x3 D.now.length y3)
 rw [←hwz] at KZ hO
 have hsz:=hO.size
 have HZ:=H_ (Below.outside HB.out hO (by omega) (by omega))
 replace O0:=H_ (O0.out.outside hO (.inr (by omega)))
 replace O1:=H_ (O1.out.outside hO (.inr (by omega)))
 replace O2:=H_ (O2.out.outside hO (.inr (by omega)))
 replace O3:=H_ (O3.out.outside hO (.inr (by omega)))
 have z0:=KZ.cell 0
 have z1:=KZ.cell 1
 have z2:=KZ.cell 2
 have z3:=KZ.cell 3
 clear KZ hO
 go_wp2_with (rw [←HW.out])
 simp only [←hwz]
 clear hwz
 refine bodyPost_ret (v:=.agg #[(.slice x0 D.first.length y0),(.slice x1 D.goal.length y1),(.slice x2 D.made.length y2),(.slice x3 D.now.length y3)]) (by simp [results,Tryz.results10,go_sem,z0,z1,z2,z3]) rfl ⟨_,_,_,_,rfl,HZ.out,?_⟩
 exact ⟨w0.heap.size,w0a.heap.size,w1.heap.size,w1a.heap.size,w2.heap.size,w2a.heap.size,w3.heap.size,w3a.heap.size,O0.out,O1.out,O2.out,O3.out,by omega,by omega,by omega,by omega,by omega,by omega,by omega,by omega,by omega,by omega⟩
end Go.Proofs.YtfnnhimopokpnaaGreatDoor
