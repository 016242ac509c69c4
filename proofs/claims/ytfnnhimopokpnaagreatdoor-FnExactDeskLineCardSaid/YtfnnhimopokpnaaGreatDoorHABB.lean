/- Lemmas for this seat; no condition. -/
import Derived.Test.YtfnnhimopokpnaaGreatDoorHABA
namespace Go.Proofs.YtfnnhimopokpnaaGreatDoor
open Go.RowKit
set_option maxRecDepth 100000
set_option maxHeartbeats 0
set_option linter.unusedVariables false
theorem autV_all (e:List Int) (h:(allX e).length≤10):autV e=⟨(allX e).map endL,(allX e).map (nextL (allX e))⟩:=by
 unfold autV
 unfold allX at h ⊢
 cases hk:katV e
 ·simp
 ·rw [hk,if_pos rfl] at h
  rw [if_pos (by simp [h])]
  simp
theorem autV_many (e:List Int) (h:¬(allX e).length≤10):autV e=⟨[],[]⟩:=by
 unfold autV
 unfold allX at h
 cases hk:katV e
 ·simp
 ·rw [hk,if_pos rfl] at h
  rw [if_neg (by simp [h])]
theorem allX_tree {e:List Int}:∀ x∈allX e,∃ t:KT,t=treeOf x∧t.post=x∧t.ok 0=true∧t.size≤1640:=by
 intro x hx
 unfold allX at hx
 split at hx
 ·rename_i hv
  obtain ⟨t0,h1,h2,_,h4⟩:=katV_tree hv
  have hA:=allV_all h1 h4
  rw [h2] at hA
  obtain ⟨q,c1,c2⟩:=hA.cl.mem _ hx
  have hq:=(Cl.kept h1).ok c1
  refine ⟨q,?_,c2,hq,Cl.size c1 h4⟩
  rw [←c2,treeOf_post hq]
 ·cases hx
theorem spec_AutoOf (lo hi:Nat) (v:Value) (e:List Int) (w:World) (hx:SlI lo hi w v e) (hh:hi≤w.heap.size) (hm:e.length≤1048576) :
  Calls Tryz.prog 111 #[v] w (RetV fun v' w'=>AuW w.heap.size w'.heap.size w' v' (autV e)∧Below w.heap.size w w'):=by
 obtain ⟨w0,hw0⟩:∃ w0,w0=w.alloc (.cells #[.slice none 0 0,.slice none 0 0] 123):=⟨_,rfl⟩
 have HB:Hid (Below w.heap.size w w0):=by rw [hw0];exact H_ ((B_ _ _).alloc (le_ _) _)
 have K1:Hid (Blk w.heap.size (.cells #[.slice none 0 0,.slice none 0 0] 123) w0):=by rw [hw0];exact H_ (Blk.new w _)
 have hsz:w0.heap.size=w.heap.size+1:=by rw [hw0];simp
 have hz1:w.heap.size+1≤w0.heap.size:=by omega
 have hz2:w0.heap.size≤w.heap.size+1:=by omega
 have HX:=H_ (hx.below HB.out hh)
 obtain ⟨a,cap,rfl,hcap,hcm⟩:=Sl.shape hx
 clear hx hsz
 go_enter Tryz.func111,Tryz.ntmps111
 go_wp2_with fail
 simp only [←hw0]
 clear hw0
 refine (spec_AllParts _ _ _ e w0 HX.out hm (by omega)).mono ?_
 rintro e2 w2 ⟨v2,rfl,hl2,hb2⟩
 have hz2':=hb2.size
 obtain ⟨lg,lc,sl,rfl,hl⟩:=hl2
 have HSL:=H_ hl.2.1
 have HL:=H_ hl
 have HB2:=H_ (HB.out.trans (hb2.mono (by omega)))
 have K2:=H_ (K1.out.below hb2 (by omega))
 have HA1:=H_ (autV_all e)
 have HA2:=H_ (autV_many e)
 have HTR:=H_ (fun k (hk:k<(allX e).length)=>allX_tree _ (List.getElem_mem hk))
 obtain ⟨L,hL⟩:∃ L,L=allX e:=⟨_,rfl⟩
 rw [←hL] at HL HSL HA1 HA2 HTR
 have HLX:=H_ (show ∀ wz,Below w2.heap.size w2 wz→∀ j (h1:j<sl.length) (h2:j<L.length),∃ pa pc,lg<wz.heap.size∧wz.cell? ⟨lg,j,none⟩=some (.slice pa L[j].length pc)∧SlI w0.heap.size w2.heap.size wz (.slice pa L[j].length pc) L[j] from fun wz hb j h1 h2=>by
  obtain ⟨g,e,_,_,hg,hc,hu⟩:=(HL.out.below hb (le_ _)).at j h1 h2
  injection e with e
  injection e with e
  subst e
  obtain ⟨pa,pc,hs⟩:=Own.shape hu
  rw [hs] at hc hu
  exact ⟨pa,pc,hg,hc,hu.sl⟩)
 obtain ⟨w3,hw3⟩:∃ w3,w3=w2.alloc (.cells #[.slice none 0 0,.slice none 0 0] 123):=⟨_,rfl⟩
 have hz3:w3.heap.size=w2.heap.size+1:=by rw [hw3];simp
 have HB3:Hid (Below w2.heap.size w2 w3):=by rw [hw3];exact H_ (al_below _ _)
 have hz3a:w2.heap.size+1≤w3.heap.size:=by omega
 have hz3b:w3.heap.size≤w2.heap.size+1:=by omega
 have HI:Hid (AUI w2.heap.size w3 w3 L 0 (.slice none 0 0) (.slice none 0 0) []):=by
  refine H_ ⟨?_,Own.nil _ _ _ _ _,LLs.nil _ _ _,fun u hu=>by simp at hu,Outside.refl _ _ _⟩
  rw [hw3];exact Blk.new w2 _
 clear hl hb2 hL hz3
 by_cases h10:sl.length≤10
 ·have hd10:decide ((sl.length:Int)≤10)=true:=by simp;omega
  go_wp2_with fail
  simp only [←hw3]
  clear hw3
  go_loopw [5] (fun i wr=>∃ (k:Nat) (va vb:Value) (ss:List Value),k≤sl.length∧i=.int .i64 k∧Hid (AUI w2.heap.size w3 wr L k va vb ss)) (fun i _=>sl.length-(intOf i).toNat)
  case atStart=>exact ⟨0,_,_,_,by omega,rfl,HI⟩
  case round=>
   rename World=>wk
   clear HI
   obtain ⟨k,va,vb,ss,hk,rfl,HI⟩:=hrel
   have hzk:=HI.out.out.size
   have HBk:=H_ (Below.outside HB3.out HI.out.out (le_ _) (by omega))
   by_cases hlt:k<sl.length
   ·have hkL:k<L.length:=by rw [←HSL.out];exact hlt
    obtain ⟨pa6,pc6,hg6,hc6,hu6⟩:=HLX.out wk HBk.out k hlt hkL
    have HU6:=H_ hu6
    clear hu6
    obtain ⟨t,ht,hpo,hok,hts⟩:=HTR.out k hkL
    have HT:=H_ ht
    have HPO:=H_ hpo
    have HOK:=H_ hok
    clear ht hpo hok
    have HEN:Hid (∀ w',Below wk.heap.size wk w'→Calls Tryz.prog 110 #[.slice pa6 L[k].length pc6] w' fun e w''=>e=.returned (.int .i64 (endL L[k]))∧Below w'.heap.size w' w''):=H_ fun w' hb'=>(l4Ends_any t _ _ _ w' (by rw [HPO.out];exact HU6.out.below hb' (by omega)) HOK.out (by omega) (by have:=hb'.size;omega)).mono (by
     rintro e w'' ⟨rfl,h⟩
     exact ⟨by rw [endL,←HT.out],h⟩)
    have c0:=HI.out.blk.cell 0
    have c0':=HI.out.blk.drew.cell 0
    have hkl:k≤L.length:=by omega
    have hk41:k≤41:=by omega
    have hg3:w2.heap.size+1≤w3.heap.size:=hz3a
    have hzx:wk.drew.heap.size=wk.heap.size:=rfl
    have hc6':wk.drew.cell? ⟨lg,k,none⟩=some (.slice pa6 L[k].length pc6):=hc6
    go_upto_region 6 with fail
    go_cut [] (fun wx=>∃ v9:Value,Hid (AUE w2.heap.size w3 wx L k v9 vb ss L[k]))
    case first=>
     go_region_law (first
      | (go_simp;go_at_call 110;refine (HEN.out wk.drew (Below.drew (B_ _ _))).mono ?_;rintro e7 w7 ⟨rfl,hb7_⟩;(have hz7:=hb7_.size);(have hb7:Below wk.heap.size wk w7:=(Below.drew (B_ _ _)).trans (hb7_.mono (le_ _)));(have HI7:=H_ (HI.out.go hb7));(have c7:=HI7.out.blk.cell 0);(have c7':=(HI7.out.blk.al (x:=.cells #[.int .i64 (endL L[k])] 3)).cell 0);(have L7:Hid (Sl 1 w7.heap.size (w7.heap.size+1) (w7.alloc (.cells #[.int .i64 (endL L[k])] 3)) (.slice (some ⟨w7.heap.size,0,none⟩) 1 1) 1 [.int .i64 (endL L[k])]):=H_ (Own.lit 1 3 w7 [.int .i64 (endL L[k])] 1 (by omega) rfl).sl);(have HE7:=H_ ((HI7.out.go (al_below w7 (.cells #[.int .i64 (endL L[k])] 3))).endsK hkl));clear hb7_ hb7)
      | (refine step_app_at (by rfl) _ _ 22 (by rfl) 3 (.int .i64 0) 1 8 Tryz.underlying22 info_int (by rfl) (by decide) (by decide) (by rfl) HE7.out (by rfl) L7.out (by intro u hu;simp only [List.mem_singleton] at hu;subst hu;rfl) (by omega) (by omega) (by simp only [alloc_size];omega) ?_;intro v9 w9 ho9 hg9 hl9;obtain ⟨y9,yc9,rfl⟩:=Own.shape ho9;(have k9:=HI7.out.blk9 hg3 hg9);(have c9:=k9.cell 0);(have f9:=k9.free 0);(have HH:=H_ (AUI.endsE HI7.out hg3 hkl ho9 hg9 hl9));clear ho9 hg9 hl9 k9))
     all_goals (
      go_wp2_with fail
      go_meet
      exact ⟨_,HH⟩)
    case rest=>
     obtain ⟨ve,HH⟩:=hcut
     obtain ⟨wa,rfl⟩:∃ x_,x_=wc:=⟨_,rfl⟩
     have hza:=HH.out.out.size
     have HBA:=H_ (Below.outside HB3.out HH.out.out (le_ _) (by omega))
     clear c0 c0' hc6' hzx HI HEN
     have HR0:Hid (OwnI wa.heap.size (wa.alloc (.cells #[] 3)).heap.size 3 (wa.alloc (.cells #[] 3)) (.slice (some ⟨wa.heap.size,0,none⟩) 0 0) (rowK L L[k] 0)∧Below wa.heap.size wa (wa.alloc (.cells #[] 3))):=H_ ⟨by
      rw [alloc_size]
      exact Own.lit 1 3 wa (ints []) 0 (by omega) rfl,al_below _ _⟩
     go_wp2
     go_loopw [6,7] (fun r i wx=>∃ m:Nat,m≤12∧i=.int .i64 m∧Hid (OwnI wa.heap.size wx.heap.size 3 wx r (rowK L L[k] m)∧Below wa.heap.size wa wx)) (fun _ i _=>12-(intOf i).toNat)
     case atStart=>exact ⟨0,by omega,rfl,HR0⟩
     case round=>
      rename World=>wx
      clear HR0
      obtain ⟨m,hm12,rfl,HR⟩:=hrel
      obtain ⟨ra,rc,hrs⟩:=Own.shape HR.out.1
      subst hrs
      rw [rowK_len]
      have hzx:=HR.out.2.size
      by_cases hltm:m<12
      ·have hdm:decide ((m:Int)<12)=true:=by simp;omega
       have HBX:=H_ (HBA.out.trans (HR.out.2.mono (by omega)))
       have hwx2:=HBX.out.size
       obtain ⟨pa7,pc7,hg7,hc7,hu7⟩:=HLX.out wx HBX.out k hlt hkL
       have HU7:=H_ hu7
       have HMQ:=H_ (show (m:Int)/3=((m/3:Nat):Int)∧(16:Int)+(m:Int)%3=16+((m%3:Nat):Int) from ⟨by omega,by omega⟩)
       have HMP:=H_ (show moveP (treeOf L[k]) m=partsV t (m/3) (16+((m%3:Nat):Int)) from by rw [←HT.out];rfl)
       have hm3:m/3<4:=by omega
       clear hu7
       go_wp2_with fail
       rw [HMQ.out.1,HMQ.out.2]
       refine (l4Parts_any t _ _ _ wx (m/3) (16+((m%3:Nat):Int)) (by rw [HPO.out];exact HU7.out) HOK.out (by omega) hm3 (by omega) (by omega) (by omega)).mono ?_
       rintro e5 w5 ⟨v5,rfl,h5,hb5⟩
       rw [←HMP.out] at h5
       have hz5:=hb5.size
       obtain ⟨bigP,lnP⟩:=parts_big HOK.out (by omega) (α:=m/3) (c:=16+((m%3:Nat):Int)) (by omega)
       rw [←HMP.out] at bigP lnP
       have HBP:=H_ bigP
       obtain ⟨g5,c5,rfl⟩:=h5.shape
       have H5:=H_ h5.sl
       have HR5:=H_ (show OwnI wa.heap.size w5.heap.size 3 w5 (.slice ra m rc) (rowK L L[k] m)∧Below wa.heap.size wa w5 from ⟨by
        have h:=(HR.out.1.below hb5 (le_ _)).lower (le_ _) hz5
        rw [rowK_len] at h
        exact h,HR.out.2.trans (hb5.mono (by omega))⟩)
       have HS0:=H_ (show ((setJ L L[k] m 0:Nat):Int)=0 from rfl)
       clear bigP h5 hb5 hc7 hg7 HU7 HMQ HMP HR
       go_wp2
       go_loopw [8,10] (fun s i wy=>∃ j:Nat,j≤sl.length∧i=.int .i64 j∧s=.int .i64 ((setJ L L[k] m j:Nat):Int)∧Hid (Below w5.heap.size w5 wy)) (fun _ i _=>sl.length-(intOf i).toNat)
       case atStart=>exact ⟨0,by omega,rfl,by rw [HS0.out],H_ (B_ _ _)⟩
       case round=>
        rename World=>wy
        obtain ⟨j,hj,rfl,rfl,HY⟩:=hrel
        have hzy:=HY.out.size
        have HBY:=H_ ((HBA.out.trans (HR5.out.2.mono (by omega))).trans (HY.out.mono (by omega)))
        by_cases hltj:j<sl.length
        ·have hjL:j<L.length:=by rw [←HSL.out];exact hltj
         obtain ⟨pa8,pc8,hg8,hc8,hu8⟩:=HLX.out wy HBY.out j hltj hjL
         have HU8:=H_ hu8
         have hsj:=setJ_lt L L[k] m j
         have hp2:(2:Nat) ^ j≤2 ^ 9:=Nat.pow_le_pow_right (by omega) (by omega)
         have HSI:=H_ (fun h:L[j]∈moveP (treeOf L[k]) m=>setJ_in hjL h)
         have HSO:=H_ (fun h:L[j] ∉ moveP (treeOf L[k]) m=>setJ_out hjL h)
         have pw:=pow_wrap20 (k:=j) (by omega)
         obtain ⟨S,hS⟩:∃ S,S=setJ L L[k] m j:=⟨_,rfl⟩
         obtain ⟨K,hK⟩:∃ K:Nat,K=2 ^ j:=⟨_,rfl⟩
         obtain ⟨P,hP⟩:∃ P,P=moveP (treeOf L[k]) m:=⟨_,rfl⟩
         rw [←hS,←hK] at hsj HSI
         rw [←hS] at HSO ⊢
         rw [←hK] at hp2 pw
         rw [←hP] at HSI HSO H5 HBP lnP ⊢
         have HLJ:=H_ ((HTR.out j hjL).choose_spec)
         have hlj:L[j].length≤16777216:=by
          have h:=HLJ.out
          rw [←h.2.1,KT.post_length]
          omega
         clear hu8 hS hK hP HLJ
         go_wp2_with fail
         refine (l4Has_any _ _ _ _ _ _ P L[j] wy (H5.out.below HY.out (le_ _)) HU8.out hzy (by omega) (by omega) (fun y hy=>by have:=HBP.out y hy;omega) hlj).mono ?_
         rintro e9 w9 ⟨rfl,hb9⟩
         have HY9:=H_ (HY.out.trans (hb9.mono hzy))
         clear hb9 hc8 hg8
         by_cases hmem:L[j]∈P
         ·have hdm:decide (L[j]∈P)=true:=by simp [hmem]
          have HN:=H_ (HSI.out hmem)
          rw [hdm]
          clear hdm hmem
          go_wp2
          go_roundw
          case rel=>exact ⟨j+1,by omega,by go_num,by rw [HN.out];rfl,HY9⟩
          case measure=>simp [intOf];omega
         ·have hdm:decide (L[j]∈P)=false:=by simp [hmem]
          have HN:=H_ (HSO.out hmem)
          rw [hdm]
          clear hdm hmem
          go_wp2
          go_roundw
          case rel=>exact ⟨j+1,by omega,by go_num,by rw [HN.out],HY9⟩
          case measure=>simp [intOf];omega
        ·obtain rfl:j=sl.length:=by omega
         have HSF:=H_ (show setJ L L[k] m sl.length=setL L L[k] m by rw [HSL.out];rfl)
         have hsz:=setJ_lt L L[k] m sl.length
         have HRY:=H_ (show OwnI wa.heap.size wy.heap.size 3 wy (.slice ra m rc) (rowK L L[k] m)∧Below wa.heap.size wa wy from ⟨(HR5.out.1.below HY.out (le_ _)).lower (le_ _) hzy,HR5.out.2.trans (HY.out.mono (by omega))⟩)
         have hzwy:=HRY.out.2.size
         have hown:Own 1 wa.heap.size wy.heap.size 3 wy (.slice ra m rc) m (ints (rowK L L[k] m)):=by
          have h:Own 1 wa.heap.size wy.heap.size 3 wy (.slice ra m rc) (rowK L L[k] m).length (ints (rowK L L[k] m)):=HRY.out.1
          rwa [rowK_len] at h
         have HOW:=H_ hown
         clear hown
         rw [HSF.out]
         go_wp2_with (at_builtin;go_loud (refine wpList_app_lit_at wy rfl _ _ 22 rfl 3 (.int .i64 0) 1 8 Tryz.underlying22 info_int rfl (by decide) (by decide) rfl HOW.out 1 [.int .i64 ((setL L L[k] m:Nat):Int)] rfl rfl (by intro u hu;simp only [List.mem_singleton] at hu;subst hu;rfl) rfl ?c1 ?c2 ?_))
         case c1=>omega
         case c2=>omega
         intro v10 w10 ho10 hg10 hl10 hout10
         have HR10:=H_ (show OwnI wa.heap.size w10.heap.size 3 w10 v10 (rowK L L[k] (m+1))∧Below wa.heap.size wa w10 from by
          have hz:(wy.alloc (.cells #[.int .i64 ((setL L L[k] m:Nat):Int)] 3)).heap.size=wy.heap.size+1:=alloc_size _ _
          refine ⟨OwnI.len (show Own 1 wa.heap.size w10.heap.size 3 w10 v10 (m+1) (ints (rowK L L[k] (m+1))) by rw [rowK_snoc,ints_append];exact ho10) (by rw [rowK_len]),?_⟩
          have ha:=al_below wy (.cells #[.int .i64 ((setL L L[k] m:Nat):Int)] 3)
          exact Below.outside (HRY.out.2.trans (ha.mono hzwy)) (grown_outside hg10 (HOW.out.alloc (.cells #[.int .i64 ((setL L L[k] m:Nat):Int)] 3)).lt) (le_ _) (by omega))
         obtain ⟨y10,yc10,rfl⟩:=Own.shape ho10
         clear ho10 hg10 hl10 hout10
         go_wp2
         go_roundw
         case rel=>exact ⟨m+1,by omega,by go_num,HR10⟩
         case measure=>simp [intOf];omega
      ·obtain rfl:m=12:=by omega
       have HROW:=H_ (AUE.row HH.out HR.out.2 (show OwnI wa.heap.size wx.heap.size 3 wx (.slice ra 12 rc) (nextL L L[k]) from by
        have h:=HR.out.1
        rw [rowK_len] at h
        exact h))
       have hss:ss.length≤41:=by have:=HH.out.next.2.1;simp at this;omega
       have c1:=HROW.out.blk.cell 1
       obtain ⟨za,zc,rfl⟩:=Own.shape HROW.out.next.1
       have hg3b:w3.heap.size≤wx.heap.size:=by omega
       go_wp2_with (at_builtin;go_loud (refine wpList_app_lit_at wx rfl _ _ 119 rfl 22 (.slice none 0 0) 1 24 Tryz.underlying119 info_ints rfl (by decide) (by decide) rfl HROW.out.next.1 1 [.slice ra 12 rc] rfl rfl (by intro u hu;simp only [List.mem_singleton] at hu;subst hu;rfl) rfl ?c1 ?c2 ?_))
       case c1=>omega
       case c2=>exact hg3b
       intro v12 w12 ho12 hg12 hl12 _
       obtain ⟨y12,yc12,rfl⟩:=Own.shape ho12
       have k12:=HROW.out.blk9 hg3 hg12
       have c12:=k12.cell 1
       have f12:=k12.free 1
       have HI13:=H_ (AUH.nextPut hkL HROW.out hg3 ho12 hg12)
       clear ho12 hg12 hl12 k12
       go_wp2
       go_roundw
       case rel=>exact ⟨k+1,_,_,_,by omega,by go_num,HI13⟩
       case measure=>simp [intOf];omega
   ·obtain rfl:k=sl.length:=by omega
    obtain ⟨za,zc,rfl⟩:=Own.shape (HI.out.endsK (by rw [←HSL.out];exact le_ _))
    obtain ⟨zb,zbc,rfl⟩:=Own.shape HI.out.next.1
    have KR:=H_ (K2.out.below HBk.out (by omega))
    have c0:=HI.out.blk.cell 0
    have c1:=HI.out.blk.cell 1
    have d0:=KR.out.cell 0
    have d1:=KR.out.cell 1
    have f0:=KR.out.free 0
    have f1:=KR.out.free 1
    go_wp2
    obtain ⟨wz,hwz⟩:∃ wz,wz=(wk.setCell ⟨w.heap.size,0,none⟩ (.slice za sl.length zc)).setCell ⟨w.heap.size,1,none⟩ (.slice zb ss.length zbc):=⟨_,rfl⟩
    have KZ:=KR.out.au2 (.slice za sl.length zc) (.slice zb ss.length zbc)
    have HO:=Outside.set2' w.heap.size wk (.slice za sl.length zc) (.slice zb ss.length zbc)
    rw [←hwz] at KZ HO
    simp only [←hwz]
    have q0:=KZ.cell 0
    have q1:=KZ.cell 1
    refine bodyPost_ret (v:=.agg #[.slice za sl.length zc,.slice zb ss.length zbc]) (by simp [results,Tryz.results111,go_sem,q0,q1]) rfl (RetV.mk _ rfl ⟨?_,Below.outside (HB2.out.trans (HBk.out.mono (by omega))) HO (le_ _) (by omega)⟩)
    have e2:L.take sl.length=L:=by rw [HSL.out,List.take_length]
    have n1:=HI.out.ends
    have n2:=HI.out.next
    rw [e2] at n1 n2
    rw [HA1.out (by rw [←HSL.out];exact h10)]
    exact ⟨_,_,ss,rfl,(n1.outside HO (.inr (by omega))).lower (by omega) HO.size,(n2.outside HO (.inr (by omega))).lower (by omega) HO.size⟩
 ·have hd10:decide ((sl.length:Int)≤10)=false:=by simp;omega
  have hpos:decide ((0:Int)<(sl.length:Int))=true:=by simp;omega
  go_wp2_with fail
  simp only [←hw3]
  clear hw3
  have HW:=H_ (B_ w3.heap.size w3)
  go_loopw [5] (fun i wr=>i=.int .i64 0∧Hid (Below w3.heap.size w3 wr)) (fun i _=>0)
  case atStart=>exact ⟨rfl,HW⟩
  case round=>
   rename World=>wk
   obtain ⟨rfl,HW'⟩:=hrel
   have HBk:=H_ (HB3.out.trans (HW'.out.mono (by omega)))
   have hzk:=HBk.out.size
   have KR:=H_ (K2.out.below HBk.out (by omega))
   have KI:=H_ (HI.out.blk.below HW'.out HI.out.blk.lt)
   have c0:=KI.out.cell 0
   have c1:=KI.out.cell 1
   have d0:=KR.out.cell 0
   have d1:=KR.out.cell 1
   have f0:=KR.out.free 0
   have f1:=KR.out.free 1
   go_wp2
   obtain ⟨wz,hwz⟩:∃ wz,wz=(wk.setCell ⟨w.heap.size,0,none⟩ (.slice none 0 0)).setCell ⟨w.heap.size,1,none⟩ (.slice none 0 0):=⟨_,rfl⟩
   have KZ:=KR.out.au2 (.slice none 0 0) (.slice none 0 0)
   have HO:=Outside.set2' w.heap.size wk (.slice none 0 0) (.slice none 0 0)
   rw [←hwz] at KZ HO
   simp only [←hwz]
   have q0:=KZ.cell 0
   have q1:=KZ.cell 1
   refine bodyPost_ret (v:=.agg #[.slice none 0 0,.slice none 0 0]) (by simp [results,Tryz.results111,go_sem,q0,q1]) rfl (RetV.mk _ rfl ⟨?_,Below.outside (HB2.out.trans (HBk.out.mono (by omega))) HO (le_ _) (by omega)⟩)
   rw [HA2.out (by rw [←HSL.out];exact h10)]
   exact AuW.nils _ _ _
theorem l5Step_any (lo hi:Nat) (v:Value) (a:Au) (set m:Nat) (w:World) (h:AuS lo hi w v a) (hh:hi≤w.heap.size) (ho:AuOk a) (hs:set<1048576) (hm:m<12) :
  Calls Tryz.prog 114 #[v,.int .i64 (set:Nat),.int .i64 (m:Nat)] w fun e w'=>e=.returned (.int .i64 ((stepU a set m:Nat):Int))∧Below w.heap.size w w':=by
 obtain ⟨va,vb,rfl,hE,hN⟩:=h
 obtain ⟨w0,hw0⟩:∃ w0,w0=w.alloc (.cells #[va,vb] 123):=⟨_,rfl⟩
 have HB:Hid (Below w.heap.size w w0):=by rw [hw0];exact H_ (al_below _ _)
 have K1:Blk w.heap.size (.cells #[va,vb] 123) w0:=by rw [hw0];exact Blk.new w _
 have c0:=K1.cell 0
 have c1:=K1.cell 1
 have HE:=H_ (hE.below HB.out hh)
 have HN:=H_ (hN.below HB.out hh)
 obtain ⟨ea,ec,rfl,_,_⟩:=Sl.shape hE
 obtain ⟨na,nc,hvb,_,_⟩:=hN.shape
 have HO:=H_ ho
 have h10:=ho.le
 have hln:=ho.len
 rw [hln] at hvb
 subst hvb
 obtain ⟨R,hR⟩:∃ R,R=a.next.map fun r:List Int=>r.getD m 0:=⟨_,rfl⟩
 have HRS:=H_ (show stepU a set m=imgT R set a.ends.length by rw [hR];rfl)
 have HRL:Hid (∀ k,imgT R set k<1024):=H_ fun k=>imgT_lt (n:=10) (fun s hs=>by
  subst hR
  simp only [List.length_map] at hs
  obtain ⟨h1,h2⟩:=ho.rows _ (List.getElem_mem hs)
  simp only [List.getElem_map,List.getD]
  rw [List.getElem?_eq_getElem (by omega)]
  exact (h2 _ (List.getElem_mem _)).2) set k
 have HRG:Hid (∀ k (h:k<a.next.length),∃ hm':m<a.next[k].length,∃ x:Nat,a.next[k][m]=(x:Int)∧x<1024∧(R.getD k 0).toNat=x):=H_ fun k hk=>by
  obtain ⟨h1,h2⟩:=ho.rows _ (List.getElem_mem hk)
  have hm':m<a.next[k].length:=by omega
  obtain ⟨h3,h4⟩:=h2 _ (List.getElem_mem hm')
  refine ⟨hm',a.next[k][m].toNat,by omega,h4,?_⟩
  subst hR
  simp [List.getD,List.getElem?_eq_getElem hk,List.getElem?_eq_getElem hm']
 obtain ⟨n,hn⟩:∃ n,n=a.ends.length:=⟨_,rfl⟩
 have HNL:=H_ (show a.next.length=n by rw [hn,hln])
 rw [←hn] at c0 c1 hw0 HRS h10 ⊢
 clear hE hN ho K1 hR hln hn
 go_enter Tryz.func114,Tryz.ntmps114
 go_wp2_with fail
 simp only [←hw0]
 clear hw0
 go_loop [7,8] (fun o i=>∃ k:Nat,k≤n∧i=.int .i64 k∧o=.int .i64 ((imgT R set k:Nat):Int)) (fun _ i=>n-(intOf i).toNat)
 case atStart=>exact ⟨0,by omega,rfl,rfl⟩
 case round=>
  obtain ⟨k,hk,rfl,rfl⟩:=hrel
  by_cases hlt:k<n
  ·have hkn:k<a.next.length:=by rw [HNL.out];exact hlt
   obtain ⟨b,off,u,rfl,_,_,_,hcell,hu⟩:=HN.out.get k hkn
   obtain ⟨hm',x,hx,hx2,hg⟩:=HRG.out k hkn
   obtain ⟨ua,uc,rfl,_,_⟩:=Sl.shape hu
   obtain ⟨b2,off2,rfl,_,_,_,hcell2⟩:=SlI.get hu m hm'
   rw [hx] at hcell2
   have hlr:a.next[k].length=12:=(HO.out.rows _ (List.getElem_mem hkn)).1
   rw [hlr] at hcell
   have him:=HRL.out k
   go_wp2_with fail
   refine (l1BitG set k (by omega) (by omega) _).mono ?_
   rintro e _ ⟨rfl,rfl⟩
   cases hb:set.testBit k
   ·have hbi:bitI set k=0:=by simp [bitI,hb]
    rw [hbi]
    have HNN:Hid (imgT R set (k+1)=imgT R set k):=H_ (by rw [imgT,hb];simp)
    clear hb hx hg hu hlr hbi
    go_wp2
    go_round
    case rel=>exact ⟨k+1,by omega,by go_num,by rw [HNN.out]⟩
    case measure=>simp [intOf];omega
   ·have hbi:bitI set k=1:=by simp [bitI,hb]
    rw [hbi]
    have HNN:Hid (imgT R set (k+1)=imgT R set k ||| x):=H_ (by rw [imgT,hb,hg];simp)
    clear hb hx hg hu hlr hbi
    go_wp2_with fail
    refine (l1EitherG (imgT R set k) x (by omega) (by omega) _).mono ?_
    rintro e _ ⟨rfl,rfl⟩
    go_wp2
    go_round
    case rel=>exact ⟨k+1,by omega,by go_num,by rw [HNN.out]⟩
    case measure=>simp [intOf];omega
  ·obtain rfl:k=n:=by omega
   go_wp2
   go_ret
   exact ⟨by rw [HRS.out];rfl,HB.out⟩
theorem l5Ends_any (lo hi:Nat) (v:Value) (a:Au) (set:Nat) (w:World) (h:AuS lo hi w v a) (hh:hi≤w.heap.size) (ho:AuOk a) (hs:set<1048576) :
  Calls Tryz.prog 112 #[v,.int .i64 (set:Nat)] w fun e w'=>e=.returned (.int .i64 ((endsU a set:Nat):Int))∧Below w.heap.size w w':=by
 obtain ⟨va,vb,rfl,hE,hN⟩:=h
 obtain ⟨w0,hw0⟩:∃ w0,w0=w.alloc (.cells #[va,vb] 123):=⟨_,rfl⟩
 have HB:Hid (Below w.heap.size w w0):=by rw [hw0];exact H_ (al_below _ _)
 have K1:Blk w.heap.size (.cells #[va,vb] 123) w0:=by rw [hw0];exact Blk.new w _
 have c0:=K1.cell 0
 have HE:=H_ (hE.below HB.out hh)
 obtain ⟨ea,ec,rfl,_,_⟩:=Sl.shape hE
 have h10:=ho.le
 obtain ⟨R,hR⟩:∃ R,R=a.ends:=⟨_,rfl⟩
 have HRS:=H_ (show endsU a set=imgT R set a.ends.length by rw [hR];rfl)
 have HRL:Hid (∀ k,imgT R set k<16):=H_ fun k=>imgT_lt (n:=4) (fun s hs=>by subst hR;exact (ho.ends _ (List.getElem_mem hs)).2) set k
 have HRG:Hid (∀ k (h:k<R.length),∃ x:Nat,R[k]=(x:Int)∧x<16∧(R.getD k 0).toNat=x):=H_ fun k hk=>by
  subst hR
  obtain ⟨h3,h4⟩:=ho.ends _ (List.getElem_mem hk)
  exact ⟨a.ends[k].toNat,by omega,h4,by simp [List.getD,List.getElem?_eq_getElem hk]⟩
 rw [←hR] at HE c0 hw0 HRS h10 ⊢
 clear hE hN ho K1 hR
 go_enter Tryz.func112,Tryz.ntmps112
 go_wp2_with fail
 simp only [←hw0]
 clear hw0
 go_loop [5,6] (fun o i=>∃ k:Nat,k≤R.length∧i=.int .i64 k∧o=.int .i64 ((imgT R set k:Nat):Int)) (fun _ i=>R.length-(intOf i).toNat)
 case atStart=>exact ⟨0,by omega,rfl,rfl⟩
 case round=>
  obtain ⟨k,hk,rfl,rfl⟩:=hrel
  by_cases hlt:k<R.length
  ·obtain ⟨x,hx,hx2,hg⟩:=HRG.out k hlt
   obtain ⟨b2,off2,rfl,_,_,_,hcell2⟩:=SlI.get HE.out k hlt
   rw [hx] at hcell2
   have him:=HRL.out k
   go_wp2_with fail
   refine (l1BitG set k (by omega) (by omega) _).mono ?_
   rintro e _ ⟨rfl,rfl⟩
   cases hb:set.testBit k
   ·have hbi:bitI set k=0:=by simp [bitI,hb]
    rw [hbi]
    have HNN:Hid (imgT R set (k+1)=imgT R set k):=H_ (by rw [imgT,hb];simp)
    clear hb hx hg hbi
    go_wp2
    go_round
    case rel=>exact ⟨k+1,by omega,by go_num,by rw [HNN.out]⟩
    case measure=>simp [intOf];omega
   ·have hbi:bitI set k=1:=by simp [bitI,hb]
    rw [hbi]
    have HNN:Hid (imgT R set (k+1)=imgT R set k ||| x):=H_ (by rw [imgT,hb,hg];simp)
    clear hb hx hg hbi
    go_wp2_with fail
    refine (l1EitherG (imgT R set k) x (by omega) (by omega) _).mono ?_
    rintro e _ ⟨rfl,rfl⟩
    go_wp2
    go_round
    case rel=>exact ⟨k+1,by omega,by go_num,by rw [HNN.out]⟩
    case measure=>simp [intOf];omega
  ·obtain rfl:k=R.length:=by omega
   go_wp2
   go_ret
   exact ⟨by rw [HRS.out];rfl,HB.out⟩
theorem has_stepP {x:Nat × Nat} {l:List (Nat × Nat)} {k:Nat} (hk:k<l.length) (h:x ∉ l.take k) (he:l[k]≠x):x ∉ l.take (k+1):=by
 rw [List.take_succ_eq_append_getElem hk,List.mem_append,List.mem_singleton]
 rintro (h1|h1)
 ·exact h h1
 ·exact he h1.symm
theorem l6Has_any (lo hi:Nat) (v:Value) (ps:List (Nat × Nat)) (x y:Nat) (w:World) (hl:SlLL lo hi w v (prL ps)) (hh:hi≤w.heap.size) (hm:ps.length≤4194304) :
  Calls Tryz.prog 115 #[v,.int .i64 (x:Nat),.int .i64 (y:Nat)] w fun e w'=>e=.returned (.bool (decide ((x,y)∈ps)))∧Below w.heap.size w w':=by
 have HL:=H_ hl
 obtain ⟨a,cap,rfl,_,_⟩:=hl.shape
 rw [prL_len] at HL ⊢
 clear hl
 go_enter Tryz.func115,Tryz.ntmps115
 go_wp2
 go_loopw [7] (fun i wr=>∃ k:Nat,k≤ps.length∧i=.int .i64 k∧Hid (Below w.heap.size w wr)∧Hid ((x,y) ∉ ps.take k)) (fun i _=>ps.length-(intOf i).toNat)
 case atStart=>exact ⟨0,by omega,rfl,H_ (B_ _ _),H_ (by simp)⟩
 case round=>
  rename World=>wr
  obtain ⟨k,hk,rfl,HB,HN⟩:=hrel
  have hzr:=HB.out.size
  by_cases hlt:k<ps.length
  ·have hkx:k<(prL ps).length:=by rw [prL_len];exact hlt
   obtain ⟨b5,off5,u5,rfl,_,_,hb5,hc5,hu5⟩:=(HL.out.below HB.out hh).get k hkx
   rw [prL_get hkx hlt] at hu5
   obtain ⟨ua,uc,rfl,_,_⟩:=Sl.shape hu5
   obtain ⟨b6,off6,rfl,_,_,hb6,hc6⟩:=SlI.get hu5 0 (by simp)
   obtain ⟨b7,off7,e7,_,_,hb7,hc7⟩:=SlI.get hu5 1 (by simp)
   injection e7 with e7
   injection e7 with e7 e8
   subst e7 e8
   simp only [List.getElem_cons_zero,List.getElem_cons_succ,List.length_cons,List.length_nil,Nat.zero_add,Nat.add_zero] at hc5 hc6 hc7
   obtain ⟨p,q,hpq⟩:∃ p q,ps[k]=(p,q):=⟨_,_,rfl⟩
   rw [hpq] at hc6 hc7
   simp only at hc6 hc7
   clear hu5
   by_cases h1:p=x
   ·subst h1
    by_cases h2:q=y
    ·subst h2
     have HY:=H_ (show true=decide ((p,q)∈ps) by
      symm
      rw [decide_eq_true_eq,←hpq]
      exact List.getElem_mem hlt)
     clear hpq
     go_wp2
     go_ret
     exact ⟨ret_bool HY.out,HB.out⟩
    ·have HNN:=H_ (has_stepP hlt HN.out (fun h=>by rw [hpq] at h;injection h with _ h;exact h2 h))
     have g1:((q:Int)==(y:Int))=false:=by simp;omega
     have g2:¬(q:Int)=(y:Int):=by omega
     clear hpq h2
     go_wp2
     go_roundw
     case rel=>exact ⟨k+1,by omega,by go_num,HB,HNN⟩
     case measure=>simp [intOf];omega
   ·have HNN:=H_ (has_stepP hlt HN.out (fun h=>by rw [hpq] at h;injection h with h _;exact h1 h))
    have g1:((p:Int)==(x:Int))=false:=by simp;omega
    have g2:¬(p:Int)=(x:Int):=by omega
    clear hpq h1
    go_wp2
    go_roundw
    case rel=>exact ⟨k+1,by omega,by go_num,HB,HNN⟩
    case measure=>simp [intOf];omega
  ·obtain rfl:k=ps.length:=by omega
   have HY:=H_ (show false=decide ((x,y)∈ps) by
    have h:=HN.out
    rw [List.take_length] at h
    simp [h])
   go_wp2
   go_ret
   exact ⟨ret_bool HY.out,HB.out⟩
theorem prow_len (a b:Au) (o:List (Nat × Nat)) (p:Nat × Nat):∀ k,(prow a b o p k).length≤o.length+k
 | 0=>by simp [prow]
 | k+1=>by
  have h:=prow_len a b o p k
  unfold prow
  split
  ·omega
  ·simp;omega
theorem prow_small {a b:Au} (ha:AuOk a) (hb:AuOk b) {o:List (Nat × Nat)} {p:Nat × Nat} (h:∀ q∈o,q.1<1024∧q.2<1024):∀ k,k≤12→∀ q∈prow a b o p k,q.1<1024∧q.2<1024
 | 0,_=>h
 | k+1,hk=>by
  have ih:=prow_small ha hb (p:=p) h k (by omega)
  intro q hq
  unfold prow at hq
  split at hq
  ·exact ih q hq
  ·rcases List.mem_append.1 hq with hq|hq
   ·exact ih q hq
   ·simp only [List.mem_singleton] at hq
    subst hq
    exact ⟨ha.step _ (by omega),hb.step _ (by omega)⟩
theorem prow_at {a b:Au} {o:List (Nat × Nat)} {p:Nat × Nat} {k j:Nat} (hk:k<o.length):∃ h:k<(prow a b o p j).length,(prow a b o p j)[k]=o[k]:=by
 obtain ⟨r,hr⟩:=prow_pre a b o p j
 have h2:k<(prow a b o p j).length:=by rw [hr,List.length_append];omega
 exact ⟨h2,by rw [List.getElem_of_eq hr,List.getElem_append_left hk]⟩
theorem prL_app (ps:List (Nat × Nat)) (x y:Nat):prL (ps++[(x,y)])=prL ps++[[(x:Int),(y:Int)]]:=by simp [prL]
noncomputable def pairsX (e f:List Int):List (Nat × Nat):=(pairsV e f).getD []
theorem pairsX_shut {e f:List Int} (h:(autV e).ends=[]∨(autV f).ends=[]):pairsX e f=[]:=by unfold pairsX pairsV;rw [if_pos h];rfl
theorem pairsX_open {e f:List Int} (h:¬((autV e).ends=[]∨(autV f).ends=[])):pairsX e f=(pairsA (autV e) (autV f)).getD []:=by unfold pairsX pairsV;rw [if_neg h]
structure AuB (w0 w:World) (ga gb:Nat) (va vb vc vd:Value) (a b:Au):Prop where
 one:Blk ga (.cells #[va,vb] 123) w
 two:Blk gb (.cells #[vc,vd] 123) w
 fst:AuS w0.heap.size w.heap.size w (.agg #[va,vb]) a
 snd:AuS w0.heap.size w.heap.size w (.agg #[vc,vd]) b
theorem AuB.go {w0 w w':World} {ga gb:Nat} {va vb vc vd:Value} {a b:Au} (h:AuB w0 w ga gb va vb vc vd a b) (hb:Below w.heap.size w w'):AuB w0 w' ga gb va vb vc vd a b:=
 ⟨h.one.below hb h.one.lt,h.two.below hb h.two.lt,(h.fst.below hb (le_ _)).wide (le_ _) hb.size,(h.snd.below hb (le_ _)).wide (le_ _) hb.size⟩
def NewP (lo:Nat) (w:World) (v:Value) (ps:List (Nat × Nat)):Prop:=NewL lo w v (prL ps)
theorem NewP.shape {lo:Nat} {w:World} {v:Value} {ps:List (Nat × Nat)} (h:NewP lo w v ps):∃ g cap,v=.slice (some ⟨g,0,none⟩) ps.length cap:=by
 obtain ⟨g,cap,e⟩:=NewL.shape h
 exact ⟨g,cap,by rw [e,prL_len]⟩
theorem NewP.go {lo:Nat} {w w':World} {v:Value} {ps:List (Nat × Nat)} (h:NewP lo w v ps) (hb:Below w.heap.size w w'):NewP lo w' v ps:=NewL.go h hb
theorem NewP.at {lo n cap g:Nat} {w:World} {ps:List (Nat × Nat)} (h:NewP lo w (.slice (some ⟨g,0,none⟩) n cap) ps) (k:Nat) (hk:k<ps.length) (x y:Nat) (hxy:ps[k]=(x,y)) :
  ∃ g2 c2,g<w.heap.size∧g2<w.heap.size∧w.cell? ⟨g,k,none⟩=some (.slice (some ⟨g2,0,none⟩) 2 c2)∧w.cell? ⟨g2,0,none⟩=some (.int .i64 (x:Nat))∧w.cell? ⟨g2,1,none⟩=some (.int .i64 (y:Nat)):=by
 have hkx:k<(prL ps).length:=by rw [prL_len];exact hk
 obtain ⟨u,hg,hc,hu⟩:=NewL.at h k hkx
 rw [prL_get hkx hk,hxy] at hu
 obtain ⟨g2,c2,rfl⟩:=own_some hu (by simp [ints])
 obtain ⟨b6,off6,e6,_,_,hb6,hc6⟩:=SlI.get hu.sl 0 (by simp)
 obtain ⟨b7,off7,e7,_,_,hb7,hc7⟩:=SlI.get hu.sl 1 (by simp)
 injection e6 with e6
 injection e6 with e6 f6
 injection e7 with e7
 injection e7 with e7 f7
 subst e6 f6 e7 f7
 exact ⟨_,c2,hg,hb6,hc,by simpa using hc6,by simpa using hc7⟩
end Go.Proofs.YtfnnhimopokpnaaGreatDoor
