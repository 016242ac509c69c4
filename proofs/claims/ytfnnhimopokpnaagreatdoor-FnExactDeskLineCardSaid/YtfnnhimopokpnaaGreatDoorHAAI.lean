/- Lemmas for this seat; no condition. -/
import Derived.Test.YtfnnhimopokpnaaGreatDoorHAAH
namespace Go.Proofs.YtfnnhimopokpnaaGreatDoor
open Go.RowKit
set_option maxRecDepth 100000
set_option maxHeartbeats 0
set_option linter.unusedVariables false
theorem runM_step {x:List Int} {ms:List Mv} (k:Nat) (h:k<ms.length):runM x (ms.drop k)=(moveV x ms[k]).bind fun y=>runM y (ms.drop (k+1)):=by
 rw [List.drop_eq_getElem_cons h,runM]
theorem runM_end {x:List Int} {ms:List Mv} (k:Nat) (h:ms.length≤k):runM x (ms.drop k)=some x:=by
 rw [List.drop_of_length_le h,runM]
theorem Blk.set3 {g:Nat} {e:TypeId} {w:World} {x0 x1 x2:Value} (h:Blk g (.cells #[x0,x1,x2] e (0,0)) w) (a b c:Value) :
  Blk g (.cells #[a,b,c] e (0,0)) (((w.setCell ⟨g,0,none⟩ a).setCell ⟨g,1,none⟩ b).setCell ⟨g,2,none⟩ c):=by
 have h':w.heap[g]?=_:=h
 show (((w.setCell ⟨g,0,none⟩ a).setCell ⟨g,1,none⟩ b).setCell ⟨g,2,none⟩ c).heap[g]?=_
 simp [World.setCell,Array.getElem?_modify,h']
theorem Outside.set3 (g:Nat) (w:World) (a b c:Value):Outside g (g+1) w (((w.setCell ⟨g,0,none⟩ a).setCell ⟨g,1,none⟩ b).setCell ⟨g,2,none⟩ c):=
 (((Outside.refl _ _ _).setCell (p:=⟨g,0,none⟩) (le_ _) (Nat.lt_succ_self _) _).setCell (p:=⟨g,1,none⟩) (le_ _) (Nat.lt_succ_self _) _).setCell (p:=⟨g,2,none⟩) (le_ _) (Nat.lt_succ_self _) _
theorem MoveR.nil {w w':World} (hb:Below w.heap.size w w'):MoveR w none (.slice none 0 0) false w':=⟨hb,rfl,Own.nil _ _ _ _ _⟩
theorem impl_ProofRun (lo hi lo' hi':Nat) (ve vm:Value) (e:List Int) (ms:List Mv) (w:World) (hE:EnvK w) (hx:SlI lo hi w ve e) (hm:e.length≤1048576) (hms:SlM lo' hi' w vm ms) (hml:ms.length≤1048576) :
  Calls Tryz.prog 70 #[ve,vm] w (RetVB (MoveR w (proofV e ms))):=by
 have HX:=H_ hx
 have HE:=H_ hE
 have HMS:=H_ hms
 obtain ⟨ma,mcap,rfl,hmc,hmm⟩:=hms.shape
 obtain ⟨ea,ecap,rfl,_⟩:=hx.open
 unfold maxLen at hmm
 clear hx hE hms
 cases hkv:katV e
 ·have HR:Hid (proofV e ms=none):=H_ (by simp [proofV,hkv])
  go_enter Tryz.func70,Tryz.ntmps70
  go_wp2_with fail
  refine (impl_KatValid _ _ _ e _ HX.out hm).mono ?_
  rintro e1 w1 ⟨rfl,rfl⟩
  rw [hkv]
  go_wp2
  go_ret2
  exact ⟨_,_,rfl,by rw [HR.out];exact MoveR.nil (B_ _ _)⟩
 by_cases hbig:60<ms.length
 ·have HR:Hid (proofV e ms=none):=H_ (by simp [proofV,hkv];omega)
  go_enter Tryz.func70,Tryz.ntmps70
  go_wp2_with fail
  refine (impl_KatValid _ _ _ e _ HX.out hm).mono ?_
  rintro e1 w1 ⟨rfl,rfl⟩
  rw [hkv]
  go_wp2
  go_ret2
  exact ⟨_,_,rfl,by rw [HR.out];exact MoveR.nil (B_ _ _)⟩
 ·have HR:Hid (proofV e ms=runM e ms):=H_ (by simp [proofV,hkv];omega)
  have HKV:=H_ hkv
  go_enter Tryz.func70,Tryz.ntmps70
  go_wp2_with fail
  refine (impl_KatValid _ _ _ e _ HX.out hm).mono ?_
  rintro e1 w1 ⟨rfl,rfl⟩
  rw [hkv]
  clear hkv
  go_wp2_with fail
  refine (cloneI_any _ _ _ e _ HX.out hm).mono ?_
  rintro e2 w2 ⟨v2,rfl,hb2,ho2⟩
  have HB2:=H_ hb2
  have HO2:=H_ ho2
  clear hb2 ho2
  go_wp2
  go_loopw [6,23] (fun v i wr=>∃ (k:Nat) (x:List Int),k≤ms.length∧i=.int .i64 k∧Hid (OwnI w.heap.size wr.heap.size 3 wr v x∧Below w.heap.size w wr∧katV x=true∧runM e ms=runM x (ms.drop k))) (fun _ i _=>ms.length-(intOf i).toNat)
  case atStart=>exact ⟨0,e,by omega,rfl,H_ ⟨HO2.out,HB2.out,HKV.out,by rw [List.drop_zero]⟩⟩
  case round=>
   obtain ⟨k,x,hk,rfl,HQ⟩:=hrel
   obtain ⟨oa,oc,rfl,_⟩:=Own.open HQ.out.1
   have HB:=H_ HQ.out.2.1
   have hsz:=HB.out.size
   by_cases hlt:k<ms.length
   ·obtain ⟨b,off,rfl,_,_,hbs,g1,g2,g3⟩:=HMS.out.get k hlt
    obtain ⟨m,hm'⟩:∃ m,m=ms[k]:=⟨_,rfl⟩
    rw [←hm'] at g1 g2 g3
    have hcellb:∀ j,wr.cell? ⟨b,j,none⟩=w.cell? ⟨b,j,none⟩:=fun j=>HB.out.cell (p:=⟨b,j,none⟩) hbs
    rw [←hcellb] at g1 g2 g3
    have HST:=H_ (HQ.out.2.2.2.trans (runM_step k hlt))
    rw [←hm'] at HST
    clear hcellb hm'
    go_wp2_with fail
    obtain ⟨w1,hw1⟩:∃ w1,w1=wr.alloc (.cells #[.int .i64 m.which,.bool m.back,.int .i64 m.at_] 67):=⟨_,rfl⟩
    have hb1:Below wr.heap.size wr w1:=by rw [hw1];exact (B_ _ _).alloc (le_ _) _
    simp only [←hw1]
    have HB1:=H_ (HB.out.trans (hb1.mono hsz))
    have HX1:=H_ (RdI.below (SlI.rd HQ.out.1.sl (le_ _)) hb1)
    have hs1:=HB1.out.size
    clear hw1 hb1 g1 g2 g3
    refine (do_any _ x m w1 (HE.out.below HB1.out) HX1.out HQ.out.2.2.1).mono ?_
    rintro e3 w3 ⟨v3,x3,rfl,hb3,hres⟩
    have HB3:=H_ (HB1.out.trans (hb3.mono hs1))
    cases hmv:moveV x m with
    | none=>
     rw [hmv] at hres HST
     obtain ⟨rfl,g,rfl,_⟩:=hres
     have HR2:Hid (proofV e ms=none):=H_ (HR.out.trans HST.out)
     clear hmv
     go_wp2
     go_ret2
     exact ⟨_,_,rfl,by rw [HR2.out];exact MoveR.nil HB3.out⟩
    | some y=>
     rw [hmv] at hres HST
     obtain ⟨rfl,ho3⟩:=hres
     have HO3:=H_ (Own.wide2 ho3 hs1 (le_ _))
     have HKY:=H_ (moveV_kat' hmv)
     obtain ⟨ya,yc,rfl,_⟩:=Own.open ho3
     clear hmv ho3 hb3
     go_wp2
     go_roundw
     case rel=>exact ⟨k+1,y,by omega,by go_num,H_ ⟨HO3.out,HB3.out,HKY.out,HST.out⟩⟩
     case measure=>simp [intOf];omega
   ·obtain rfl:k=ms.length:=by omega
    have HR2:Hid (proofV e ms=some x):=H_ (by rw [HR.out,HQ.out.2.2.2,runM_end _ (le_ _)])
    go_wp2
    go_ret2
    exact ⟨_,_,rfl,by rw [HR2.out];exact ⟨HB.out,rfl,HQ.out.1⟩⟩
theorem hxa_of {lo hi:Nat} {w:World} {v:Value} {xs:List Int} (h:SlI lo hi w v xs) (o:Obj):SlI lo hi (w.alloc o) v xs:=by
 obtain ⟨a,cap,h1,h2,h3,h4,h5,h6⟩:=h
 refine ⟨a,cap,h1,h2,h3,h4,h5,fun i hi'=>?_⟩
 obtain ⟨b,off,e,e1,e2,e3,e4⟩:=h6 i hi'
 exact ⟨b,off,e,e1,e2,by simp;omega,by rw [World.cell?_alloc_lt _ _ ⟨b,off+i,none⟩ e3];exact e4⟩
theorem spec_ProofRun (lo hi lo' hi':Nat) (ve vm:Value) (e:List Int) (ms:List Mv) (w:World) (hx:SlI lo hi w ve e) (hm:e.length≤1048576) (hms:SlM lo' hi' w vm ms) (hml:ms.length≤1048576) :
  Calls Tryz.prog 63 #[ve,vm] w (RetVB (MoveR w (proofV e ms))):=by
 have HX:=H_ hx
 have HMS:=H_ hms
 obtain ⟨ma,mcap,rfl,hmc,hmm⟩:=hms.shape
 obtain ⟨ea,ecap,rfl,_⟩:=hx.open
 unfold maxLen at hmm
 clear hx hms
 cases hkv:katV e
 ·have HR:Hid (proofV e ms=none):=H_ (by simp [proofV,hkv])
  go_enter Tryz.func63,Tryz.ntmps63
  go_wp2_with fail
  refine (spec_KatValid _ _ _ e _ HX.out hm).mono ?_
  rintro e1 w1 ⟨rfl,rfl⟩
  rw [hkv]
  go_wp2
  go_ret2
  exact ⟨_,_,rfl,by rw [HR.out];exact MoveR.fail (B_ _ _)⟩
 by_cases hbig:60<ms.length
 ·have HR:Hid (proofV e ms=none):=H_ (by simp [proofV,hkv];omega)
  go_enter Tryz.func63,Tryz.ntmps63
  go_wp2_with fail
  refine (spec_KatValid _ _ _ e _ HX.out hm).mono ?_
  rintro e1 w1 ⟨rfl,rfl⟩
  rw [hkv]
  go_wp2
  go_ret2
  exact ⟨_,_,rfl,by rw [HR.out];exact MoveR.fail (B_ _ _)⟩
 ·have HR:Hid (proofV e ms=runM e ms):=H_ (by simp [proofV,hkv];omega)
  have HKV:=H_ hkv
  have HOL:Hid (Own 1 w.heap.size (w.heap.size+1) 3 (w.alloc (.cells #[] 3)) (.slice (some ⟨w.heap.size,0,none⟩) 0 0) 0 (ints [])):=H_ (Own.lit 1 3 w (ints []) 0 (by omega) rfl)
  have HA:=H_ ((B_ w.heap.size w).alloc (le_ _) (.cells #[] 3))
  have HXA:=H_ ((hxa_of HX.out) (.cells #[] 3))
  go_enter Tryz.func63,Tryz.ntmps63
  go_wp2_with fail
  refine (spec_KatValid _ _ _ e _ HX.out hm).mono ?_
  rintro e1 w1 ⟨rfl,rfl⟩
  rw [hkv]
  clear hkv
  go_wp2_with (at_builtin;go_loud (refine wpList_app_sl rfl _ _ 22 rfl 3 (.int .i64 0) 1 8 Tryz.underlying22 info_int rfl (by decide) (by decide) rfl HOL.out rfl HXA.out (ints_one _) (by omega) (by simp) ?_))
  intro v2 w2 ho2 _ hout2 _
  have HO2:Hid (OwnI w.heap.size w2.heap.size 3 w2 v2 e):=by
   have h:=ho2
   simp only [←ints_append,List.nil_append] at h
   exact H_ h
  have HB2:=H_ (Below.outside HA.out hout2 (le_ _) (by simp))
  obtain ⟨a2,c2,rfl,_⟩:=Own.open HO2.out
  clear ho2 hout2 HXA HOL HA
  go_wp2
  go_loopw [6,7] (fun v i wr=>∃ (k:Nat) (x:List Int),k≤ms.length∧i=.int .i64 k∧Hid (OwnI w.heap.size wr.heap.size 3 wr v x∧Below w.heap.size w wr∧katV x=true∧runM e ms=runM x (ms.drop k))) (fun _ i _=>ms.length-(intOf i).toNat)
  case atStart=>exact ⟨0,e,by omega,rfl,H_ ⟨HO2.out,HB2.out,HKV.out,by rw [List.drop_zero]⟩⟩
  case round=>
   obtain ⟨k,x,hk,rfl,HQ⟩:=hrel
   obtain ⟨oa,oc,rfl,_⟩:=Own.open HQ.out.1
   have HB:=H_ HQ.out.2.1
   have hsz:=HB.out.size
   by_cases hlt:k<ms.length
   ·obtain ⟨b,off,rfl,_,_,hbs,g1,g2,g3⟩:=HMS.out.get k hlt
    obtain ⟨m,hm'⟩:∃ m,m=ms[k]:=⟨_,rfl⟩
    rw [←hm'] at g1 g2 g3
    have hcellb:∀ j,wr.cell? ⟨b,j,none⟩=w.cell? ⟨b,j,none⟩:=fun j=>HB.out.cell (p:=⟨b,j,none⟩) hbs
    rw [←hcellb] at g1 g2 g3
    have HST:=H_ (HQ.out.2.2.2.trans (runM_step k hlt))
    rw [←hm'] at HST
    have hxl:=(kat_len HQ.out.2.2.1).2
    clear hcellb hm'
    go_wp2_with fail
    refine (spec_MoveDo _ x m wr (SlI.rd HQ.out.1.sl (le_ _)) (by omega)).mono ?_
    rintro e3 w3 ⟨v3,b3,rfl,hb3,rfl,ho3⟩
    have HB3:=H_ (HB.out.trans (hb3.mono hsz))
    obtain ⟨ya,yc,rfl,_⟩:=Own.open ho3
    cases hmv:moveV x m with
    | none=>
     rw [hmv] at HST
     have HR2:Hid (proofV e ms=none):=H_ (HR.out.trans HST.out)
     clear hmv ho3
     simp only [Option.isSome_none]
     go_wp2
     go_ret2
     exact ⟨_,_,rfl,by rw [HR2.out];exact MoveR.fail HB3.out⟩
    | some y=>
     rw [hmv] at HST ho3
     have HO3:=H_ (Own.wide2 ho3 hsz (le_ _))
     have HKY:=H_ (moveV_kat' hmv)
     clear hmv ho3 hb3 g1 g2 g3
     simp only [Option.isSome_some,Option.getD_some]
     go_wp2
     go_roundw
     case rel=>exact ⟨k+1,y,by omega,by go_num,H_ ⟨HO3.out,HB3.out,HKY.out,HST.out⟩⟩
     case measure=>simp [intOf];omega
   ·obtain rfl:k=ms.length:=by omega
    have HR2:Hid (proofV e ms=some x):=H_ (by rw [HR.out,HQ.out.2.2.2,runM_end _ (le_ _)])
    go_wp2
    go_ret2
    exact ⟨_,_,rfl,by rw [HR2.out];exact ⟨HB.out,rfl,HQ.out.1⟩⟩
end Go.Proofs.YtfnnhimopokpnaaGreatDoor
