/- Lemmas for this seat; no condition. -/
import Derived.Test.YtfnnhimopokpnaaGreatDoorHABB
namespace Go.Proofs.YtfnnhimopokpnaaGreatDoor
open Go.RowKit
set_option maxRecDepth 100000
set_option maxHeartbeats 0
set_option linter.unusedVariables false
theorem spec_PairsOf (lo hi lo' hi':Nat) (ve vf:Value) (e f:List Int) (w:World) (hx:SlI lo hi w ve e) (hy:SlI lo' hi' w vf f) (hh:hi≤w.heap.size) (hh':hi'≤w.heap.size) (hm:e.length≤1048576) (hm':f.length≤1048576) :
  Calls Tryz.prog 106 #[ve,vf] w (RetV fun v w'=>NewP w.heap.size w' v (pairsX e f)∧Below w.heap.size w w'):=by
 have HX:=H_ hx
 have HY:=H_ hy
 have HAO:=H_ (autV_ok e)
 have HBO:=H_ (autV_ok f)
 have HB0:=H_ (B_ w.heap.size w)
 clear hx hy
 go_enter Tryz.func106,Tryz.ntmps106
 go_wp2_with fail
 refine (spec_AutoOf _ _ _ e w (HX.out.below HB0.out hh) (by have:=HB0.out.size;omega) hm).mono ?_
 rintro e1 w1 ⟨v1,rfl,⟨va,vb,ss,rfl,ha1,ha2⟩,hb1⟩
 have hz1_:=HB0.out.size
 have hz1:=hb1.size
 obtain ⟨a1,c1,rfl⟩:=Own.shape ha1
 obtain ⟨a2,c2_,rfl⟩:=Own.shape ha2.1
 obtain ⟨w2,hww2⟩:∃ x_,x_=w1.alloc (.cells #[.slice a1 (autV e).ends.length c1,.slice a2 ss.length c2_] 123):=⟨_,rfl⟩
 obtain ⟨hb2,K2,hsw2⟩:=box_facts2 hww2
 have HBw2:=H_ ((HB0.out.trans (hb1.mono (by omega))).trans (hb2.mono (by omega)))
 have HAw2:=H_ (show AuS w.heap.size w2.heap.size w2 (.agg #[.slice a1 (autV e).ends.length c1,.slice a2 ss.length c2_]) (autV e)∧Blk w1.heap.size (.cells #[.slice a1 (autV e).ends.length c1,.slice a2 ss.length c2_] 123) w2 from ⟨AuS.wide (AuS.below ⟨_,_,rfl,ha1.sl,ha2.sl⟩ hb2 (le_ _)) (by omega) (by omega),K2⟩)
 clear hb1 hb2 K2 ha1 ha2
 go_wp2_with fail
 simp only [←hww2]
 clear hww2
 refine (spec_AutoOf _ _ _ f w2 (HY.out.below HBw2.out hh') (by have:=HBw2.out.size;omega) hm').mono ?_
 rintro e3 w3 ⟨v3,rfl,⟨vc,vd,tt,rfl,ha1,ha2⟩,hb1⟩
 have hz3:=hb1.size
 obtain ⟨a3,c3,rfl⟩:=Own.shape ha1
 obtain ⟨a4,c4,rfl⟩:=Own.shape ha2.1
 obtain ⟨w4,hww4⟩:∃ x_,x_=w3.alloc (.cells #[.slice a3 (autV f).ends.length c3,.slice a4 tt.length c4] 123):=⟨_,rfl⟩
 obtain ⟨hb2,K2,hsw4⟩:=box_facts2 hww4
 have HBw4:=H_ ((HBw2.out.trans (hb1.mono (by omega))).trans (hb2.mono (by omega)))
 obtain ⟨n1,hn1⟩:∃ n_,n_=(autV e).ends.length:=⟨_,rfl⟩
 obtain ⟨n2,hn2⟩:∃ n_,n_=(autV f).ends.length:=⟨_,rfl⟩
 have HN1:=H_ hn1
 have HN2:=H_ hn2
 have HAB:Hid (AuB w w4 w1.heap.size w3.heap.size (.slice a1 n1 c1) (.slice a2 ss.length c2_) (.slice a3 n2 c3) (.slice a4 tt.length c4) (autV e) (autV f)):=by
  rw [hn1,hn2]
  exact H_ ⟨(HAw2.out.2.below hb1 (by omega)).below hb2 (by omega),K2,((HAw2.out.1.below hb1 (by omega)).below hb2 (by omega)).wide (le_ _) (by omega),AuS.wide (AuS.below ⟨_,_,rfl,ha1.sl,ha2.sl⟩ hb2 (le_ _)) (by omega) (by omega)⟩
 clear hb1 hb2 K2 ha1 ha2 HAw2 hn1 hn2
 go_upto_region 3 with fail
 simp only [←hww4]
 clear hww4
 have ca:=HAB.out.one.cell 0
 have cb:=HAB.out.two.cell 0
 have hga:=HAB.out.one.lt
 have hgb:=HAB.out.two.lt
 by_cases h0:n1=0∨n2=0
 ·have HE:=H_ (pairsX_shut (e:=e) (f:=f) (h0.imp (fun h=>List.eq_nil_of_length_eq_zero (HN1.out.symm.trans h)) (fun h=>List.eq_nil_of_length_eq_zero (HN2.out.symm.trans h))))
  cases g1:decide ((n1:Int)=0)<;>cases g2:decide ((n2:Int)=0)
  ·exfalso
   have:=of_decide_eq_false g1
   have:=of_decide_eq_false g2
   omega
  all_goals (
   have g3:((n1:Int)==0)=decide ((n1:Int)=0):=rfl
   have g4:((n2:Int)==0)=decide ((n2:Int)=0):=rfl
   rw [g1] at g3
   rw [g2] at g4
   go_wp2
   go_ret
   exact RetV.mk _ rfl ⟨by rw [HE.out];exact newL_zero _ _ (by have:=HBw4.out.size;omega),HBw4.out.trans ((al_below _ _).mono HBw4.out.size)⟩)
 ·have g1:((n1:Int)==0)=false:=by simp;omega
  have g2:((n2:Int)==0)=false:=by simp;omega
  have HE:=H_ (pairsX_open (e:=e) (f:=f) (fun h=>h0 (h.imp (fun h=>by rw [HN1.out,h];rfl) (fun h=>by rw [HN2.out,h];rfl))))
  clear h0
  obtain ⟨w5,hw5⟩:∃ x_,x_=w4.alloc (.cells #[.int .i64 1,.int .i64 1] 3):=⟨_,rfl⟩
  obtain ⟨w6,hw6⟩:∃ x_,x_=w5.alloc (.cells #[.slice (some ⟨w4.heap.size,0,none⟩) 2 2] 22):=⟨_,rfl⟩
  have HI:=H_ (show NewP w4.heap.size w6 (.slice (some ⟨w4.heap.size+1,0,none⟩) 1 1) [(1,1)]∧Below w4.heap.size w4 w6 from by
   have hs5:w5.heap.size=w4.heap.size+1:=by rw [hw5];simp
   have hs6:w6.heap.size=w5.heap.size+1:=by rw [hw6];simp
   have hb5:Below w4.heap.size w4 w5:=by rw [hw5];exact al_below _ _
   have hb6:Below w5.heap.size w5 w6:=by rw [hw6];exact al_below _ _
   refine ⟨?_,hb5.trans (hb6.mono (by omega))⟩
   have hr:OwnI w4.heap.size w5.heap.size 3 w5 (.slice (some ⟨w4.heap.size,0,none⟩) 2 2) [1,1]:=by
    rw [hs5,hw5]
    exact Own.lit 1 3 w4 (ints [1,1]) 2 (by omega) rfl
   have h:=LLs.one hr (by omega)
   rw [←hw6,←hs6,hs5] at h
   exact ⟨_,1,[_],rfl,h⟩)
  rw [hw5] at hw6
  clear hw5
  go_wp2_with fail
  simp only [←hw6]
  clear hw6
  go_loopw [7,8] (fun v i wr=>∃ (k:Nat) (o:List (Nat × Nat)),k≤o.length∧o.length≤100∧i=.int .i64 k∧Hid (NewP w4.heap.size wr v o∧Below w4.heap.size w4 wr∧PgI (autV e) (autV f) k o∧∀ q∈o,q.1<1024∧q.2<1024)) (fun _ i _=>200-(intOf i).toNat)
  case atStart=>exact ⟨0,[(1,1)],by simp,by simp,rfl,H_ ⟨HI.out.1,HI.out.2,rfl,by simp⟩⟩
  case round=>
   rename World=>wr
   clear HI
   obtain ⟨k,o,hk,h100,rfl,HQ⟩:=hrel
   obtain ⟨og,oc,hov⟩:=HQ.out.1.shape
   subst hov
   have h100':k≤100:=by omega
   by_cases hlt:k<o.length
   ·obtain ⟨x,y,hxy⟩:∃ x y,o[k]=(x,y):=⟨_,_,rfl⟩
    obtain ⟨hx10,hy10⟩:x<1024∧y<1024:=by
     have:=HQ.out.2.2.2 _ (List.getElem_mem hlt)
     rw [hxy] at this
     exact this
    have HGD:=H_ (show o.getD k (0,0)=(x,y) from by rw [List.getD,List.getElem?_eq_getElem hlt];exact hxy)
    have HPW:=H_ (show ∀ m,∃ h:k<(prow (autV e) (autV f) o (x,y) m).length,(prow (autV e) (autV f) o (x,y) m)[k]=(x,y) from fun m=>by
     obtain ⟨h1,h2⟩:=prow_at (a:=autV e) (b:=autV f) (p:=(x,y)) (j:=m) hlt
     exact ⟨h1,h2.trans hxy⟩)
    have HPL:=H_ (prow_len (autV e) (autV f) o (x,y))
    have HPS:=H_ (prow_small HAO.out HBO.out (o:=o) (p:=(x,y)) HQ.out.2.2.2)
    have HPG:=H_ HQ.out.2.2.1
    have HW0:=H_ (show NewP w4.heap.size wr (.slice (some ⟨og,0,none⟩) o.length oc) (prow (autV e) (autV f) o (x,y) 0)∧Below w4.heap.size w4 wr from ⟨HQ.out.1,HQ.out.2.1⟩)
    clear hxy HQ
    go_wp2
    go_loopw [7,9] (fun v i wx=>∃ m:Nat,m≤12∧i=.int .i64 m∧Hid (NewP w4.heap.size wx v (prow (autV e) (autV f) o (x,y) m)∧Below w4.heap.size w4 wx)) (fun _ i _=>12-(intOf i).toNat)
    case atStart=>exact ⟨0,by omega,rfl,HW0⟩
    case round=>
     clear HW0
     rename World=>wx
     obtain ⟨m,hm12,rfl,HA⟩:=hrel
     obtain ⟨pg,pc,ss4,hpv,hq⟩:=HA.out.1
     subst hpv
     have HLN:=H_ (hq.2.1.trans (prL_len _))
     have hl112:ss4.length≤112:=by
      rw [HLN.out]
      have:=HPL.out m
      omega
     have HQ:=H_ hq
     clear hq
     by_cases hltm:m<12
     ·obtain ⟨hkm,hkp⟩:=HPW.out m
      have hks:k<ss4.length:=by rw [HLN.out];exact hkm
      have hwx:=HA.out.2.size
      obtain ⟨g2,c2,hg,hg2,hcc,hx0,hy0⟩:=HA.out.1.at k hkm x y hkp
      have HABX:=H_ (HAB.out.go HA.out.2)
      have hgs:∀ w',Below wx.heap.size wx w'→w'.cell? ⟨w1.heap.size,0,none⟩=some (.slice a1 n1 c1)∧w'.cell? ⟨w1.heap.size,1,none⟩=some (.slice a2 ss.length c2_)∧w'.cell? ⟨w3.heap.size,0,none⟩=some (.slice a3 n2 c3)∧w'.cell? ⟨w3.heap.size,1,none⟩=some (.slice a4 tt.length c4)∧w'.cell? ⟨pg,k,none⟩=some (.slice (some ⟨g2,0,none⟩) 2 c2)∧w'.cell? ⟨g2,0,none⟩=some (.int .i64 (x:Nat))∧w'.cell? ⟨g2,1,none⟩=some (.int .i64 (y:Nat)):=fun w' hb=>⟨(HABX.out.go hb).one.cell 0,(HABX.out.go hb).one.cell 1,(HABX.out.go hb).two.cell 0,(HABX.out.go hb).two.cell 1,(hb.cell (p:=⟨pg,k,none⟩) hg).trans hcc,(hb.cell (p:=⟨g2,0,none⟩) hg2).trans hx0,(hb.cell (p:=⟨g2,1,none⟩) hg2).trans hy0⟩
      have hbA:Below wx.heap.size wx wx.drew:=Below.drew (B_ _ _)
      have hS:=hgs wx (B_ _ _)
      have hSA:=hgs _ hbA
      have HGS:=H_ hgs
      have hdz:wx.drew.heap.size=wx.heap.size:=rfl
      clear hgs hcc hx0 hy0
      go_upto_region 12 with fail
      go_region_held3 (fun w'=>w'.cell? ⟨w1.heap.size,0,none⟩=some (.slice a1 n1 c1)∧w'.cell? ⟨w1.heap.size,1,none⟩=some (.slice a2 ss.length c2_)∧w'.cell? ⟨w3.heap.size,0,none⟩=some (.slice a3 n2 c3)∧w'.cell? ⟨w3.heap.size,1,none⟩=some (.slice a4 tt.length c4)∧w'.cell? ⟨pg,k,none⟩=some (.slice (some ⟨g2,0,none⟩) 2 c2)∧w'.cell? ⟨g2,0,none⟩=some (.int .i64 (x:Nat))∧w'.cell? ⟨g2,1,none⟩=some (.int .i64 (y:Nat))) (first | with_reducible assumption | go_keep) (first
       | (go_at_call 114;refine (l5Step_any _ _ _ (autV e) x m wx.drew (HABX.out.fst.below hbA (le_ _)) (by omega) HAO.out (by omega) hltm).mono ?_;rintro e7 w7 ⟨rfl,hb_⟩;(have hz7:=hb_.size);(have hb7:=hbA.trans (hb_.mono (by omega)));(have hS7:=HGS.out _ hb7);(have HB7:=H_ hb7);clear hb_ hb7))
      have hbB:Below wx.heap.size wx w7.drew:=Below.drew HB7.out
      have hSB:=HGS.out _ hbB
      have hdz7:w7.drew.heap.size=w7.heap.size:=rfl
      clear hSA hbA hS
      go_upto_region 13 with fail
      go_region_held3 (fun w'=>w'.cell? ⟨w1.heap.size,0,none⟩=some (.slice a1 n1 c1)∧w'.cell? ⟨w1.heap.size,1,none⟩=some (.slice a2 ss.length c2_)∧w'.cell? ⟨w3.heap.size,0,none⟩=some (.slice a3 n2 c3)∧w'.cell? ⟨w3.heap.size,1,none⟩=some (.slice a4 tt.length c4)∧w'.cell? ⟨pg,k,none⟩=some (.slice (some ⟨g2,0,none⟩) 2 c2)∧w'.cell? ⟨g2,0,none⟩=some (.int .i64 (x:Nat))∧w'.cell? ⟨g2,1,none⟩=some (.int .i64 (y:Nat))) (first | with_reducible assumption | go_keep) (first
       | (go_at_call 114;refine (l5Step_any _ _ _ (autV f) y m w7.drew (HABX.out.snd.below hbB (le_ _)) (by omega) HBO.out (by omega) hltm).mono ?_;rintro e8 w8 ⟨rfl,hb_⟩;(have hz8:=hb_.size);(have hb8:=hbB.trans (hb_.mono (by omega)));(have hS8:=HGS.out _ hb8);(have HB8:=H_ hb8);clear hb_ hb8))
      clear hS7 hS8 hSB hbB hdz hdz7 hg hg2
      have HQ8:=H_ ((HQ.out.below HB8.out (le_ _)).lower (le_ _) HB8.out.size)
      have HB48:=H_ (HA.out.2.trans (HB8.out.mono hwx))
      have HNP:Hid (nextP (autV e) (autV f) (x,y) m=(stepU (autV e) x m,stepU (autV f) y m)):=H_ rfl
      obtain ⟨X,hX⟩:∃ X,X=stepU (autV e) x m:=⟨_,rfl⟩
      obtain ⟨Y,hY⟩:∃ Y,Y=stepU (autV f) y m:=⟨_,rfl⟩
      obtain ⟨q,hq⟩:∃ q,q=prow (autV e) (autV f) o (x,y) m:=⟨_,rfl⟩
      have HIN:=H_ (prow_in (a:=autV e) (b:=autV f) (o:=o) (p:=(x,y)) (k:=m))
      have HOUT:=H_ (prow_out (a:=autV e) (b:=autV f) (o:=o) (p:=(x,y)) (k:=m))
      rw [←hX,←hY] at HNP
      rw [HNP.out,←hq] at HIN HOUT
      rw [←hq] at HQ8 HLN
      rw [←hX,←hY]
      clear hX hY hq HQ HA HNP
      have hz48:=HB48.out.size
      go_wp2_with fail
      refine (l6Has_any _ _ _ q X Y w8 HQ8.out.sl (le_ _) (by rw [←HLN.out];omega)).mono ?_
      rintro e9 w9 ⟨rfl,hb9⟩
      have hz9:=hb9.size
      have HQ9:=H_ ((HQ8.out.below hb9 (le_ _)).lower (le_ _) hz9)
      have HB9:=H_ (HB48.out.trans (hb9.mono hz48))
      clear hb9 HQ8 HB48 HB7 HB8 HABX HGS
      by_cases hmem:(X,Y)∈q
      ·have hdm:decide ((X,Y)∈q)=true:=by simp [hmem]
       have HN:=H_ (HIN.out hmem)
       rw [hdm]
       clear hdm hmem
       go_wp2
       go_roundw
       case rel=>exact ⟨m+1,by omega,by go_num,H_ ⟨by rw [HN.out];exact ⟨_,_,_,rfl,HQ9.out⟩,HB9.out⟩⟩
       case measure=>simp [intOf];omega
      ·have hdm:decide ((X,Y)∈q)=false:=by simp [hmem]
       have HN:=H_ (HOUT.out hmem)
       rw [hdm]
       clear hdm hmem
       obtain ⟨wA,hwA⟩:∃ x_,x_=w9.alloc (.cells #[.int .i64 (X:Nat),.int .i64 (Y:Nat)] 3):=⟨_,rfl⟩
       have hbA:Below w9.heap.size w9 wA:=by rw [hwA];exact al_below _ _
       have hzA:wA.heap.size=w9.heap.size+1:=by rw [hwA];simp
       have hzw9:=HB9.out.size
       have HQA:=H_ ((HQ9.out.below hbA (le_ _)).lower (le_ _) (show w9.heap.size≤wA.heap.size by omega))
       have HRA:Hid (OwnI w4.heap.size wA.heap.size 3 wA (.slice (some ⟨w9.heap.size,0,none⟩) 2 2) [(X:Int),(Y:Int)]):=H_ (by
        have h:=Own.lit 1 3 w9 (ints [(X:Int),(Y:Int)]) 2 (by omega) rfl
        rw [hzA,hwA]
        exact OwnI.lower (show OwnI w9.heap.size (w9.heap.size+1) 3 _ _ [(X:Int),(Y:Int)] from h) (by omega) (le_ _))
       have HBA:=H_ (HB9.out.trans (hbA.mono (by omega)))
       have HWA:=H_ hwA
       have HZA:=H_ hzA
       clear hwA hbA HQ9 HB9
       go_wp2_with (at_builtin;go_loud (refine wpList_app_lit_at wA rfl _ _ 119 rfl 22 (.slice none 0 0) 1 24 Tryz.underlying119 info_ints rfl (by decide) (by decide) rfl HQA.out.1 1 [.slice (some ⟨w9.heap.size,0,none⟩) 2 2] (by rw [HZA.out];rfl) rfl (by intro u hu;simp only [List.mem_singleton] at hu;subst hu;rfl) (by rw [HWA.out]) ?c1 ?c2 ?_))
       case c1=>omega
       case c2=>omega
       intro v10 wB ho10 hg10 _ _
       rw [←HWA.out] at hg10
       have HJ:=H_ (NewL.app HQA.out HRA.out ho10 hg10)
       have HBB:=H_ (Below.outside HBA.out HJ.out.2 (le_ _) (by omega))
       obtain ⟨y10,yc10,rfl⟩:=Own.shape ho10
       clear ho10 hg10
       go_wp2
       go_roundw
       case rel=>exact ⟨m+1,by omega,by go_num,H_ ⟨by rw [HN.out,NewP,prL_app];exact HJ.out.1,HBB.out⟩⟩
       case measure=>simp [intOf];omega
     ·obtain rfl:m=12:=by omega
      have hk12:k+1≤ss4.length:=by
       obtain ⟨h,_⟩:=HPW.out 12
       rw [HLN.out]
       omega
      have HPS12:=H_ (HPS.out 12 (le_ _))
      have HNX:=H_ (fun h=>PgI.next HPG.out hlt h100' h)
      have HMN:=H_ (fun h=>PgI.many HPG.out hlt h100' h)
      rw [HGD.out] at HNX HMN
      by_cases h101:100<ss4.length
      ·have HEE:=H_ (show pairsX e f=[] from by rw [HE.out,HMN.out (by rw [←HLN.out];exact h101)];rfl)
       go_wp2
       go_ret
       exact RetV.mk _ rfl ⟨by rw [HEE.out];exact newL_zero _ _ (by have:=HBw4.out.size;have:=HA.out.2.size;omega),(HBw4.out.trans (HA.out.2.mono HBw4.out.size)).trans ((al_below _ _).mono (by have:=HBw4.out.size;have:=HA.out.2.size;omega))⟩
      ·have hl100:ss4.length≤100:=by omega
       go_wp2
       go_roundw
       case rel=>exact ⟨k+1,_,by rw [←HLN.out];exact hk12,by rw [←HLN.out];exact hl100,by go_num,H_ ⟨⟨_,_,_,rfl,HQ.out⟩,HA.out.2,HNX.out (by rw [←HLN.out];exact hl100),HPS12.out⟩⟩
       case measure=>simp [intOf];omega
   ·obtain rfl:k=o.length:=by omega
    have HEE:=H_ (show pairsX e f=o from by rw [HE.out,PgI.done HQ.out.2.2.1 h100];rfl)
    go_wp2
    go_ret
    exact RetV.mk _ rfl ⟨by rw [HEE.out];exact NewL.low HQ.out.1 HBw4.out.size,HBw4.out.trans (HQ.out.2.1.mono HBw4.out.size)⟩
structure DLv (n:Nat) (seen:List (Nat × Nat)) (ws:List Way2):Prop where
 nodup:(seen++ws.map (·.1)).Nodup
 small:∀ p∈seen++ws.map (·.1),p.1<1024∧p.2<1024
 len:∀ x∈ws,x.2.length=n
theorem DLv.few {n:Nat} {seen:List (Nat × Nat)} {ws:List Way2} (h:DLv n seen ws):seen.length+ws.length≤1048576:=by
 have:=pairs_few h.nodup h.small
 simpa using this
theorem DLv.push {n:Nat} {seen:List (Nat × Nat)} {ws:List Way2} {p:Nat × Nat} {t:List Int} (h:DLv n seen ws) (hn:p ∉ seen++ws.map (·.1)) (hp:p.1<1024∧p.2<1024) (ht:t.length=n):DLv n seen (ws++[(p,t)]):=by
 have e:seen++(ws++[(p,t)]).map (·.1)=(seen++ws.map (·.1))++[p]:=by simp
 refine ⟨?_,fun q hq=>?_,fun x hx=>?_⟩
 ·rw [e,List.nodup_append]
  exact ⟨h.nodup,by simp,fun x hx y hy e'=>by simp only [List.mem_singleton] at hy;subst hy;subst e';exact hn hx⟩
 ·rw [e] at hq
  rcases List.mem_append.1 hq with hq|hq
  ·exact h.small q hq
  ·simp only [List.mem_singleton] at hq;subst hq;exact hp
 ·rcases List.mem_append.1 hx with hx|hx
  ·exact h.len x hx
  ·simp only [List.mem_singleton] at hx;subst hx;exact ht
theorem DLv.start {n:Nat} {seen:List (Nat × Nat)} {ws:List Way2} (h:DLv n seen ws) (m:Nat):DLv m (seen++ws.map (·.1)) []:=⟨by simpa using h.nodup,by simpa using h.small,fun x hx=>by cases hx⟩
theorem dif_in {a b:Au} {w:Way2} {s:List (Nat × Nat) × List Way2} {seen:List (Nat × Nat)} {m:Nat} {f:List Way2} (hs:(seen++f.map (·.1),f)=goW a b w s m) (h:nextP a b w.1 m∈seen∨nextP a b w.1 m∈f.map (·.1)):(seen++f.map (·.1),f)=goW a b w s (m+1):=
 goW_in hs (List.mem_append.2 h)
theorem dif_out {a b:Au} {w:Way2} {s:List (Nat × Nat) × List Way2} {seen:List (Nat × Nat)} {m:Nat} {f:List Way2} (hs:(seen++f.map (·.1),f)=goW a b w s m) (h1:nextP a b w.1 m ∉ seen) (h2:nextP a b w.1 m ∉ f.map (·.1)) :
  (seen++(f++[(nextP a b w.1 m,w.2++[((m/3:Nat):Int),16+((m%3:Nat):Int)])]).map (·.1),f++[(nextP a b w.1 m,w.2++[((m/3:Nat):Int),16+((m%3:Nat):Int)])])=goW a b w s (m+1):=by
 have h:=goW_out hs (fun h=>(List.mem_append.1 h).elim h1 h2)
 rw [←h]
 simp
theorem bestL_snoc (a b:Au) (l:List Way2) {k:Nat} (hk:k<l.length) (o:List Int):bestL a b (l.take (k+1)) o=bestW (apartP a b l[k].1) l[k].2 (bestL a b (l.take k) o) 4:=by
 unfold bestL
 rw [List.take_succ_eq_append_getElem hk,List.foldl_append]
 rfl
theorem bestW_len {x n:Nat} {tr best:List Int} (ht:tr.length=n) (hb:best.length≤n+1):∀ k,(bestW x tr best k).length≤n+1
 | 0=>hb
 | k+1=>by
  rw [bestW]
  split
  ·simp [ht]
  ·exact bestW_len ht hb k
theorem bestL_len {a b:Au} {n:Nat}:∀ {l:List Way2} {o:List Int},(∀ w∈l,w.2.length=n)→o.length≤n+1→(bestL a b l o).length≤n+1
 | [],_,_,h=>h
 | w :: r,o,hl,h=>bestL_len (l:=r) (fun x hx=>hl x (by simp [hx])) (bestW_len (hl w (by simp)) h 4)
theorem bestW_take {x k:Nat} {tr best:List Int} (h:(x.testBit (3-k)&&((bestW x tr best k).isEmpty||ltL (tr++[((3-k:Nat):Int)]) (bestW x tr best k)))=true):bestW x tr best (k+1)=tr++[((3-k:Nat):Int)]:=by rw [bestW,if_pos h]
theorem bestW_leave {x k:Nat} {tr best:List Int} (h:(x.testBit (3-k)&&((bestW x tr best k).isEmpty||ltL (tr++[((3-k:Nat):Int)]) (bestW x tr best k)))=false):bestW x tr best (k+1)=bestW x tr best k:=by rw [bestW,if_neg (by simp [h])]
theorem lev_tells {a b:Au} {n m:Nat} (hn:n<21) {seen:List (Nat × Nat)} {l:List Way2} (hw:WaysI m l) (h:bestL a b l []≠[]):levGo a b (21-n) seen l=some (bestL a b l []):=by
 rw [bestL_hit hw] at h ⊢
 cases ht:hitL a b l with
 | none=>rw [ht] at h;exact absurd rfl h
 | some t=>rw [levGo_hit hn ht];rfl
theorem hitL_ne {a b:Au} {t:List Int}:∀ {l:List Way2},hitL a b l=some t→t≠[]
 | [],h=>by cases h
 | w :: r,h=>by
  unfold hitL at h
  split at h
  ·rename_i t' ht
   unfold hitW at ht
   obtain ⟨k,_,e⟩:=Option.map_eq_some_iff.1 ht
   injection h with h
   subst h
   subst e
   simp
  ·exact hitL_ne h
theorem lev_goes {a b:Au} {n m:Nat} (hn:n<21) {seen:List (Nat × Nat)} {l:List Way2} (hw:WaysI m l) (h:bestL a b l []=[]) {q:List (Nat × Nat)} {f:List Way2} (hq:(q,f)=goL a b (seen,[]) l):levGo a b (21-n) seen l=levGo a b (21-(n+1)) q f:=by
 refine levGo_next hn ?_ hq
 rw [bestL_hit hw] at h
 cases ht:hitL a b l with
 | none=>rfl
 | some t=>rw [ht] at h;exact absurd h (hitL_ne ht)
theorem pairGo_pre (a b:Au):∀ (f i:Nat) (o ps:List (Nat × Nat)),pairGo a b f i o=some ps→∃ r,ps=o++r
 | 0,i,o,ps,h=>⟨[],by simp only [pairGo,Option.some.injEq] at h;simp [h]⟩
 | f+1,i,o,ps,h=>by
  unfold pairGo at h
  split at h
  ·split at h
   ·cases h
   ·obtain ⟨r,e⟩:=pairGo_pre a b f _ _ _ h
    obtain ⟨r2,e2⟩:=prow_pre a b o (o.getD i (0,0)) 12
    exact ⟨r2++r,by rw [e,e2,List.append_assoc]⟩
  ·injection h with h
   exact ⟨[],by simp [h]⟩
theorem differ_none {e f:List Int} (h:pairsX e f=[]):differV e f=none:=by
 unfold differV
 rw [if_neg]
 intro hs
 obtain ⟨ps,hp⟩:=Option.isSome_iff_exists.1 hs
 unfold pairsX at h
 rw [hp,Option.getD_some] at h
 subst h
 unfold pairsV at hp
 split at hp
 ·cases hp
 ·obtain ⟨r,hr⟩:=pairGo_pre _ _ _ _ _ _ hp
  simp at hr
theorem differ_lev {e f:List Int} (h:pairsX e f≠[]):differV e f=levGo (autV e) (autV f) 21 [(1,1)] [((1,1),[])]:=by
 unfold differV
 rw [if_pos]
 unfold pairsX at h
 cases hp:pairsV e f with
 | none=>rw [hp] at h;exact absurd rfl h
 | some ps=>rfl
theorem prL_apps (xs ys:List (Nat × Nat)):prL (xs++ys)=prL xs++prL ys:=by simp [prL]
theorem prL_app' (xs:List (Nat × Nat)) (p:Nat × Nat):prL (xs++[p])=prL xs++[[(p.1:Int),(p.2:Int)]]:=by simp [prL]
def FtS (o:Option (List Int)) (w:World) (r:Value) (w':World):Prop:=((∃ t v,o=some t∧r=.tuple #[v,.bool true]∧OwnI w.heap.size w'.heap.size 3 w' v t∧t.length≤64)∨(o=none∧∃ g,r=.tuple #[.slice (some ⟨g,0,none⟩) 0 0,.bool false]))∧Below w.heap.size w w'
structure LvS (w4 wr:World) (B:Nat) (vs vt vn:Value) (seen:List (Nat × Nat)) (l:List Way2):Prop where
 lo:w4.heap.size≤B
 hi:B≤wr.heap.size
 seen:∃ ss,LLs w4.heap.size B wr vs ss (prL seen)
 tr:NewL B wr vt (l.map (·.2))
 now:NewP B wr vn (l.map (·.1))
 below:Below w4.heap.size w4 wr
theorem LvS.go {w4 wr wx:World} {B:Nat} {vs vt vn:Value} {seen:List (Nat × Nat)} {l:List Way2} (h:LvS w4 wr B vs vt vn seen l) (hb:Below wr.heap.size wr wx):LvS w4 wx B vs vt vn seen l:=by
 obtain ⟨ss,hs⟩:=h.seen
 have hh:=h.hi
 have hl:=h.lo
 exact ⟨h.lo,Nat.le_trans hh hb.size,⟨ss,hs.below hb hh⟩,h.tr.go hb,h.now.go hb,h.below.trans (hb.mono (by omega))⟩
structure LvG (w4 ws:World) (B:Nat) (vs vt vn:Value) (seen:List (Nat × Nat)) (l:List Way2):Prop where
 seen:∃ ss,LLs w4.heap.size ws.heap.size ws vs ss (prL seen)
 tr:NewL B ws vt (l.map (·.2))
 now:NewP B ws vn (l.map (·.1))
 below:Below w4.heap.size w4 ws
theorem LvS.grow {w4 wr w9:World} {B:Nat} {vs vt vn v9:Value} {seen:List (Nat × Nat)} {l:List Way2} {ss sn:List Value} (h:LvS w4 wr B vs vt vn seen l) (hs:LLs w4.heap.size B wr vs ss (prL seen)) (hn:LLs B wr.heap.size wr vn sn (prL (l.map (·.1))))
  (ho:Own 1 w4.heap.size w9.heap.size 22 w9 v9 (ss.length+sn.length) (ss++sn)) (hg:wr.grownBy w9 vs.ownBlock):LvG w4 w9 B v9 vt vn (seen++l.map (·.1)) l:=by
 have hh:=h.hi
 have hl:=h.lo
 have hz:=hg.size
 have far:∀ {v:Value} {us:List Value} {xss:List (List Int)},LLs B wr.heap.size wr v us xss→LLs B wr.heap.size w9 v us xss:=fun {v us xss} hv=>LLs.far hv hs.1 hg (by
  cases hb:v.ownBlock with
  | none=>exact .inl rfl
  | some j=>
   right
   intro e
   have h1:=(hv.1.1.lt j hb).1
   have h2:=hs.1.2 j e.symm
   omega)
 obtain ⟨gt,ct,st,et,ht⟩:=h.tr
 obtain ⟨gn,cn,sm,en,hm⟩:=h.now
 refine ⟨⟨ss++sn,?_⟩,⟨gt,ct,st,et,(far ht).lower (le_ _) hz⟩,⟨gn,cn,sm,en,(far hm).lower (le_ _) hz⟩,Below.outside h.below (grown_outside hg hs.1.lt) (le_ _) (by omega)⟩
 rw [prL_apps]
 exact LLs.join hs hg ho rfl hn.2.1 (fun i h1 h2=>(hn.2.2 i h1 h2).lower hl hz) (by omega)
theorem lvS_start {w4 w5:World} (hw:w5=((((w4.alloc (.cells #[] 22)).alloc (.cells #[] 3)).alloc (.cells #[.slice (some ⟨w4.heap.size+1,0,none⟩) 0 0] 22)).alloc (.cells #[.int .i64 1,.int .i64 1] 3)).alloc (.cells #[.slice (some ⟨w4.heap.size+3,0,none⟩) 2 2] 22)) :
  LvS w4 w5 (w4.heap.size+1) (.slice (some ⟨w4.heap.size,0,none⟩) 0 0) (.slice (some ⟨w4.heap.size+2,0,none⟩) 1 1) (.slice (some ⟨w4.heap.size+4,0,none⟩) 1 1) [] [((1,1),[])]:=by
 obtain ⟨a1,h1⟩:∃ a,a=w4.alloc (.cells #[] 22):=⟨_,rfl⟩
 obtain ⟨a2,h2⟩:∃ a,a=a1.alloc (.cells #[] 3):=⟨_,rfl⟩
 obtain ⟨a3,h3⟩:∃ a,a=a2.alloc (.cells #[.slice (some ⟨w4.heap.size+1,0,none⟩) 0 0] 22):=⟨_,rfl⟩
 obtain ⟨a4,h4⟩:∃ a,a=a3.alloc (.cells #[.int .i64 1,.int .i64 1] 3):=⟨_,rfl⟩
 rw [←h1,←h2,←h3,←h4] at hw
 have b1:Below w4.heap.size w4 a1:=by rw [h1];exact al_below _ _
 have b2:Below a1.heap.size a1 a2:=by rw [h2];exact al_below _ _
 have b3:Below a2.heap.size a2 a3:=by rw [h3];exact al_below _ _
 have b4:Below a3.heap.size a3 a4:=by rw [h4];exact al_below _ _
 have b5:Below a4.heap.size a4 w5:=by rw [hw];exact al_below _ _
 have s1:a1.heap.size=w4.heap.size+1:=by rw [h1];simp
 have s2:a2.heap.size=w4.heap.size+2:=by rw [h2,alloc_size];omega
 have s3:a3.heap.size=w4.heap.size+3:=by rw [h3,alloc_size];omega
 have s4:a4.heap.size=w4.heap.size+4:=by rw [h4,alloc_size];omega
 have s5:w5.heap.size=w4.heap.size+5:=by rw [hw,alloc_size];omega
 have k1:LLs w4.heap.size (w4.heap.size+1) a1 (.slice (some ⟨w4.heap.size,0,none⟩) 0 0) [] []:=by rw [h1];exact LLs.zero _ w4 (le_ _)
 have k2:OwnI a1.heap.size a2.heap.size 3 a2 (.slice (some ⟨w4.heap.size+1,0,none⟩) 0 0) []:=by
  rw [s2,h2,←s1]
  have h:=Own.lit 1 3 a1 (ints []) 0 (by omega) rfl
  rw [show w4.heap.size+2=a1.heap.size+1 by omega]
  exact h
 have k3:LLs a1.heap.size a3.heap.size a3 (.slice (some ⟨w4.heap.size+2,0,none⟩) 1 1) [.slice (some ⟨w4.heap.size+1,0,none⟩) 0 0] [[]]:=by
  have h:=LLs.one k2 (by omega)
  rw [←h3,show a2.heap.size+1=a3.heap.size by omega,s2] at h
  exact h
 have k4:OwnI a3.heap.size a4.heap.size 3 a4 (.slice (some ⟨w4.heap.size+3,0,none⟩) 2 2) [1,1]:=by
  rw [s4,h4,←s3]
  have h:=Own.lit 1 3 a3 (ints [1,1]) 2 (by omega) rfl
  rw [show w4.heap.size+4=a3.heap.size+1 by omega]
  exact h
 have k5:LLs a3.heap.size w5.heap.size w5 (.slice (some ⟨w4.heap.size+4,0,none⟩) 1 1) [.slice (some ⟨w4.heap.size+3,0,none⟩) 2 2] [[1,1]]:=by
  have h:=LLs.one k4 (by omega)
  rw [←hw,show a4.heap.size+1=w5.heap.size by omega,s4] at h
  exact h
 have b15:Below a1.heap.size a1 w5:=((b2.trans (b3.mono (by omega))).trans (b4.mono (by omega))).trans (b5.mono (by omega))
 have b35:Below a3.heap.size a3 w5:=b4.trans (b5.mono (by omega))
 refine ⟨by omega,by omega,⟨[],k1.below b15 (by omega)⟩,⟨_,1,[.slice (some ⟨w4.heap.size+1,0,none⟩) 0 0],rfl,?_⟩,⟨_,1,[.slice (some ⟨w4.heap.size+3,0,none⟩) 2 2],rfl,?_⟩,b1.trans (b15.mono (by omega))⟩
 ·exact (k3.below b35 (le_ _)).lower (by omega) (by omega)
 ·exact k5.lower (by omega) (le_ _)
structure FuT (ws wx:World) (vt vn:Value) (ts:List (List Int)) (ps:List (Nat × Nat)):Prop where
 tr:NewL ws.heap.size wx vt ts
 now:NewP ws.heap.size wx vn ps
 ne:∀ j,vt.ownBlock=some j→vn.ownBlock=some j→False
 below:Below ws.heap.size ws wx
theorem FuT.go {ws wx wy:World} {vt vn:Value} {ts:List (List Int)} {ps:List (Nat × Nat)} (h:FuT ws wx vt vn ts ps) (hb:Below wx.heap.size wx wy):FuT ws wy vt vn ts ps:=
 ⟨h.tr.go hb,h.now.go hb,h.ne,h.below.trans (hb.mono h.below.size)⟩
theorem apart_of {a b:Option Nat} (h:∀ j,a=some j→b=some j→False):a=none∨a≠b:=by
 cases a with
 | none=>exact .inl rfl
 | some j=>exact .inr fun e=>h j rfl e.symm
theorem FuT.pushNow {ws wA w9:World} {vt v9 s:Value} {gn cn:Nat} {sn:List Value} {ts:List (List Int)} {ps:List (Nat × Nat)} {p:Nat × Nat} (h:FuT ws wA vt (.slice (some ⟨gn,0,none⟩) sn.length cn) ts ps) (hq:LLs ws.heap.size wA.heap.size wA (.slice (some ⟨gn,0,none⟩) sn.length cn) sn (prL ps))
  (hs:OwnI ws.heap.size wA.heap.size 3 wA s [(p.1:Int),(p.2:Int)]) (ho:Own 1 ws.heap.size w9.heap.size 22 w9 v9 (sn.length+1) (sn++[s])) (hg:(wA.alloc (.cells #[s] 22)).grownBy w9 (Value.slice (some ⟨gn,0,none⟩) sn.length cn).ownBlock)
  (hl:v9.ownBlock=(Value.slice (some ⟨gn,0,none⟩) sn.length cn).ownBlock∨v9.ownBlock=some (wA.alloc (.cells #[s] 22)).heap.size):FuT ws w9 vt v9 ts (ps++[p]):=by
 obtain ⟨gt,ct,st,et,ht⟩:=h.tr
 have hJ:=NewL.app hq hs ho hg
 have hbe:=LLs.beside hq ht (le_ _) (apart_of h.ne) hg hl
 have hz:(wA.alloc (.cells #[s] 22)).heap.size=wA.heap.size+1:=alloc_size _ _
 have hz9:=hg.size
 refine ⟨⟨gt,ct,st,et,hbe.1.lower (le_ _) (by omega)⟩,?_,fun j e1 e2=>?_,Below.outside h.below hJ.2 (le_ _) h.below.size⟩
 ·rw [NewP,prL_app']
  exact hJ.1
 ·rcases hbe.2 with e|e
  ·rw [e] at e1;cases e1
  ·exact e (e1.trans e2.symm)
theorem FuT.pushTr {ws wA w9:World} {vn v9 s:Value} {gt ct:Nat} {st:List Value} {ts:List (List Int)} {ps:List (Nat × Nat)} {t:List Int} (h:FuT ws wA (.slice (some ⟨gt,0,none⟩) st.length ct) vn ts ps) (hq:LLs ws.heap.size wA.heap.size wA (.slice (some ⟨gt,0,none⟩) st.length ct) st ts)
  (hs:OwnI ws.heap.size wA.heap.size 3 wA s t) (ho:Own 1 ws.heap.size w9.heap.size 22 w9 v9 (st.length+1) (st++[s])) (hg:(wA.alloc (.cells #[s] 22)).grownBy w9 (Value.slice (some ⟨gt,0,none⟩) st.length ct).ownBlock)
  (hl:v9.ownBlock=(Value.slice (some ⟨gt,0,none⟩) st.length ct).ownBlock∨v9.ownBlock=some (wA.alloc (.cells #[s] 22)).heap.size):FuT ws w9 v9 vn (ts++[t]) ps:=by
 obtain ⟨gn,cn,sn,en,hn⟩:=h.now
 have hJ:=NewL.app hq hs ho hg
 have hbe:=LLs.beside hq hn (le_ _) (apart_of fun j e1 e2=>h.ne j e2 e1) hg hl
 have hz:(wA.alloc (.cells #[s] 22)).heap.size=wA.heap.size+1:=alloc_size _ _
 have hz9:=hg.size
 refine ⟨hJ.1,⟨gn,cn,sn,en,hbe.1.lower (le_ _) (by omega)⟩,fun j e1 e2=>?_,Below.outside h.below hJ.2 (le_ _) h.below.size⟩
 rcases hbe.2 with e|e
 ·rw [e] at e2;cases e2
 ·exact e (e2.trans e1.symm)
theorem FuT.start (w:World):FuT w ((w.alloc (.cells #[] 22)).alloc (.cells #[] 22)) (.slice (some ⟨w.heap.size,0,none⟩) 0 0) (.slice (some ⟨w.heap.size+1,0,none⟩) 0 0) [] []:=by
 have h2:=newL_zero w.heap.size (w.alloc (.cells #[] 22)) (by simp)
 rw [alloc_size] at h2
 refine ⟨(newL_zero w.heap.size w (le_ _)).go (al_below _ _),h2,fun j e1 e2=>?_,(al_below _ _).trans ((al_below _ _).mono (by simp))⟩
 simp only [Value.ownBlock,Option.some.injEq] at e1 e2
 omega
end Go.Proofs.YtfnnhimopokpnaaGreatDoor
