/- Lemmas for this seat; no condition. -/
import Derived.Test.YtfnnhimopokpnaaGreatDoorHABD
namespace Go.Proofs.YtfnnhimopokpnaaGreatDoor
open Go.RowKit
set_option maxRecDepth 100000
set_option maxHeartbeats 0
set_option linter.unusedVariables false
theorem bit_xor (x y α:Nat):(bitI x α !=bitI y α)=(x ^^^ y).testBit α:=by
 rw [Nat.testBit_xor]
 unfold bitI
 cases x.testBit α<;>cases y.testBit α<;>decide
theorem spec_Differ (lo hi lo' hi':Nat) (ve vf:Value) (e f:List Int) (w:World) (hx:SlI lo hi w ve e) (hy:SlI lo' hi' w vf f) (hh:hi≤w.heap.size) (hh':hi'≤w.heap.size) (hm:e.length≤1048576) (hm':f.length≤1048576) :
  Calls Tryz.prog 59 #[ve,vf] w (RetV (FtS (differV e f) w)):=by
 have HX:=H_ hx
 have HY:=H_ hy
 have HAO:=H_ (autV_ok e)
 have HBO:=H_ (autV_ok f)
 have HDL:=H_ (differ_lev (e:=e) (f:=f))
 clear hx hy
 go_enter Tryz.func59,Tryz.ntmps59
 go_wp2_with fail
 refine (spec_PairsOf _ _ _ _ _ _ e f w HX.out HY.out hh hh' hm hm').mono ?_
 rintro e0 wp ⟨vp,rfl,hp,hbp⟩
 have HBp:=H_ hbp
 have hzp:=hbp.size
 obtain ⟨pg,pc,rfl⟩:=hp.shape
 obtain ⟨N,hN⟩:∃ N,N=(pairsX e f).length:=⟨_,rfl⟩
 rw [←hN]
 have HNN:=H_ hN
 clear hp hbp hN
 by_cases h0:N=0
 ·have HE:=H_ (differ_none (e:=e) (f:=f) (List.eq_nil_of_length_eq_zero (HNN.out.symm.trans h0)))
  subst h0
  go_wp2
  refine bodyPost_ret (v:=.tuple #[.slice (some ⟨wp.heap.size,0,none⟩) 0 0,.bool false]) (by simp [results,Tryz.results59,go_sem]) rfl ?_
  exact RetV.mk _ rfl ⟨.inr ⟨HE.out,_,rfl⟩,HBp.out.trans ((al_below _ _).mono hzp)⟩
 have g0:((N:Int)==0)=false:=by simp;omega
 replace HDL:=H_ (HDL.out (fun h=>h0 (by rw [HNN.out,h];rfl)))
 clear HNN
 go_wp2_with fail
 refine (spec_AutoOf _ _ _ e wp (HX.out.below HBp.out hh) (by have:=HBp.out.size;omega) hm).mono ?_
 rintro e1 w1 ⟨v1,rfl,⟨va,vb,ss,rfl,ha1,ha2⟩,hb1⟩
 have hz1_:=HBp.out.size
 have hz1:=hb1.size
 obtain ⟨a1,c1,rfl⟩:=Own.shape ha1
 obtain ⟨a2,c2_,rfl⟩:=Own.shape ha2.1
 obtain ⟨w2,hww2⟩:∃ x_,x_=w1.alloc (.cells #[.slice a1 (autV e).ends.length c1,.slice a2 ss.length c2_] 123):=⟨_,rfl⟩
 obtain ⟨hb2,K2,hsw2⟩:=box_facts2 hww2
 have HBw2:=H_ ((HBp.out.trans (hb1.mono (by omega))).trans (hb2.mono (by omega)))
 have HAw2:=H_ (show AuS w.heap.size w2.heap.size w2 (.agg #[.slice a1 (autV e).ends.length c1,.slice a2 ss.length c2_]) (autV e)∧Blk w1.heap.size (.cells #[.slice a1 (autV e).ends.length c1,.slice a2 ss.length c2_] 123) w2 from ⟨AuS.wide (AuS.below ⟨_,_,rfl,ha1.sl,ha2.sl⟩ hb2 (le_ _)) (by omega) (by omega),K2⟩)
 clear hb1 hb2 K2 ha1 ha2
 go_wp2_with fail
 simp only [←hww2]
 clear hww2
 refine (spec_AutoOf _ _ _ f w2 (HY.out.below HBw2.out hh') (by have:=HBw2.out.size;omega) hm').mono ?_
 rintro e3 w3 ⟨v3,rfl,⟨vc,vd,tt,rfl,ha1,ha2⟩,hb1⟩
 have hz3:=hb1.size
 obtain ⟨a3,c3,rfl⟩:=Own.shape ha1
 obtain ⟨a4,c4,rfl⟩:=Own.shape ha2.1
 obtain ⟨w4,hww4⟩:∃ x_,x_=w3.alloc (.cells #[.slice a3 (autV f).ends.length c3,.slice a4 tt.length c4] 123):=⟨_,rfl⟩
 obtain ⟨hb2,K2,hsw4⟩:=box_facts2 hww4
 have HBw4:=H_ ((HBw2.out.trans (hb1.mono (by omega))).trans (hb2.mono (by omega)))
 obtain ⟨n1,hn1⟩:∃ n_,n_=(autV e).ends.length:=⟨_,rfl⟩
 obtain ⟨n2,hn2⟩:∃ n_,n_=(autV f).ends.length:=⟨_,rfl⟩
 have HN1:=H_ hn1
 have HN2:=H_ hn2
 have HAB:Hid (AuB w w4 w1.heap.size w3.heap.size (.slice a1 n1 c1) (.slice a2 ss.length c2_) (.slice a3 n2 c3) (.slice a4 tt.length c4) (autV e) (autV f)):=by
  rw [hn1,hn2]
  exact H_ ⟨(HAw2.out.2.below hb1 (by omega)).below hb2 (by omega),K2,((HAw2.out.1.below hb1 (by omega)).below hb2 (by omega)).wide (le_ _) (by omega),AuS.wide (AuS.below ⟨_,_,rfl,ha1.sl,ha2.sl⟩ hb2 (le_ _)) (by omega) (by omega)⟩
 clear hb1 hb2 K2 ha1 ha2 HAw2 hn1 hn2
 go_upto_region 5 with fail
 simp only [←hww4]
 clear hww4
 have hw04:=HBw4.out.size
 obtain ⟨ga,hga⟩:∃ g_,g_=w1.heap.size:=⟨_,rfl⟩
 obtain ⟨gb,hgb⟩:∃ g_,g_=w3.heap.size:=⟨_,rfl⟩
 rw [←hga,←hgb] at HAB
 rw [←hga,←hgb]
 clear hga hgb
 obtain ⟨w5,hw5⟩:∃ x_,x_=((((w4.alloc (.cells #[] 22)).alloc (.cells #[] 3)).alloc (.cells #[.slice (some ⟨w4.heap.size+1,0,none⟩) 0 0] 22)).alloc (.cells #[.int .i64 1,.int .i64 1] 3)).alloc (.cells #[.slice (some ⟨w4.heap.size+1+1+1,0,none⟩) 2 2] 22):=⟨_,rfl⟩
 have HI:=H_ (show LvS w4 w5 (w4.heap.size+1) (.slice (some ⟨w4.heap.size,0,none⟩) 0 0) (.slice (some ⟨w4.heap.size+1+1,0,none⟩) 1 1) (.slice (some ⟨w4.heap.size+1+1+1+1,0,none⟩) 1 1) [] [((1,1),[])] from lvS_start hw5)
 go_upto_region 8 with fail
 simp only [←hw5]
 clear hw5
 go_wp2
 go_loopw [8,9,10,11] (fun vs vt vn i wr=>∃ (n B:Nat) (seen:List (Nat × Nat)) (l:List Way2),n≤21∧i=.int .i64 n∧Hid (LvS w4 wr B vs vt vn seen l)∧Hid (DLv (2*n) seen l∧WaysI (2*n) l∧seen++l.map (·.1)≠[])∧Hid (levGo (autV e) (autV f) (21-n) (seen++l.map (·.1)) l=differV e f)) (fun _ _ _ i _=>21-(intOf i).toNat)
 case atStart=>exact ⟨0,_,[],[((1,1),[])],by omega,rfl,HI,H_ ⟨⟨by simp,by simp,by simp⟩,⟨by simp,by simp⟩,by simp⟩,H_ (by rw [HDL.out];rfl)⟩
 case round=>
  rename World=>wr
  clear HI HDL
  obtain ⟨n,B,seen,l,hn,rfl,HI,HD,HLG⟩:=hrel
  have HFW:=HD.out.1.few
  obtain ⟨sl_,hsr⟩:=HI.out.seen
  have HSR:=H_ hsr
  clear hsr
  obtain ⟨sa,sc,rfl⟩:=Own.shape HSR.out.1
  obtain ⟨tg,tc,rfl⟩:=HI.out.tr.shape
  obtain ⟨ng,nc,rfl⟩:=HI.out.now.shape
  simp only [List.length_map] at HI ⊢
  have HSL:=H_ (HSR.out.2.1.trans (prL_len seen))
  have hwr:=HI.out.below.size
  have HABR:=H_ (HAB.out.go HI.out.below)
  by_cases hlt:n<21
  ·have hdn:decide ((n:Int)≤20)=true:=by simp;omega
   have HB0:=H_ (show OwnI wr.heap.size (wr.alloc (.cells #[] 3)).heap.size 3 (wr.alloc (.cells #[] 3)) (.slice (some ⟨wr.heap.size,0,none⟩) 0 0) (bestL (autV e) (autV f) (l.take 0) [])∧Below wr.heap.size wr (wr.alloc (.cells #[] 3)) from ⟨by
    rw [alloc_size]
    exact Own.lit 1 3 wr (ints []) 0 (by omega) rfl,al_below _ _⟩)
   go_wp2
   go_loopw [12,13] (fun vb i wx=>∃ k:Nat,k≤l.length∧i=.int .i64 k∧Hid (OwnI wr.heap.size wx.heap.size 3 wx vb (bestL (autV e) (autV f) (l.take k) [])∧Below wr.heap.size wr wx)) (fun _ i _=>l.length-(intOf i).toNat)
   case atStart=>exact ⟨0,by omega,rfl,HB0⟩
   case round=>
    rename World=>wx
    clear HB0
    obtain ⟨k,hk,rfl,HBX⟩:=hrel
    obtain ⟨ba,bc,hbv⟩:=Own.shape HBX.out.1
    subst hbv
    by_cases hltk:k<l.length
    ·obtain ⟨⟨⟨x,y⟩,tr⟩,hxy⟩:∃ q:Way2,l[k]=q:=⟨_,rfl⟩
     have htr:tr.length=2*n:=by
      have:=HD.out.1.len _ (List.getElem_mem hltk)
      rw [hxy] at this
      exact this
     have HTRL:=H_ htr
     have htr42:tr.length≤42:=by omega
     clear htr
     obtain ⟨hx10,hy10⟩:x<1024∧y<1024:=HD.out.1.small (x,y) (List.mem_append.2 (.inr (List.mem_map.2 ⟨_,List.getElem_mem hltk,by rw [hxy]⟩)))
     obtain ⟨g2,c2,hg,hg2,hcc,hx0,hy0⟩:=HI.out.now.at k (by simpa using hltk) x y (by simp [hxy])
     obtain ⟨u,htg,htc,hu⟩:=HI.out.tr.at k (by simpa using hltk)
     rw [List.getElem_map,hxy] at hu
     have HTR:=H_ hu
     obtain ⟨ta,tcc,hus⟩:=Own.shape hu
     simp only at hus
     rw [hus] at htc HTR
     have hgs:∀ w',Below wr.heap.size wr w'→w'.cell? ⟨ga,0,none⟩=some (.slice a1 n1 c1)∧w'.cell? ⟨ga,1,none⟩=some (.slice a2 ss.length c2_)∧w'.cell? ⟨gb,0,none⟩=some (.slice a3 n2 c3)∧w'.cell? ⟨gb,1,none⟩=some (.slice a4 tt.length c4)∧w'.cell? ⟨ng,k,none⟩=some (.slice (some ⟨g2,0,none⟩) 2 c2)∧w'.cell? ⟨g2,0,none⟩=some (.int .i64 (x:Nat))∧w'.cell? ⟨g2,1,none⟩=some (.int .i64 (y:Nat)):=fun w' hb=>⟨(HABR.out.go hb).one.cell 0,(HABR.out.go hb).one.cell 1,(HABR.out.go hb).two.cell 0,(HABR.out.go hb).two.cell 1,(hb.cell (p:=⟨ng,k,none⟩) hg).trans hcc,(hb.cell (p:=⟨g2,0,none⟩) hg2).trans hx0,(hb.cell (p:=⟨g2,1,none⟩) hg2).trans hy0⟩
     have HGS:=H_ hgs
     have HTC:=H_ (show ∀ w',Below wr.heap.size wr w'→w'.cell? ⟨tg,k,none⟩=some (.slice ta tr.length tcc) from fun w' hb=>(hb.cell (p:=⟨tg,k,none⟩) htg).trans htc)
     have HBN:=H_ (bestL_snoc (autV e) (autV f) l hltk [])
     have HBL:=H_ (bestL_len (a:=autV e) (b:=autV f) (n:=2*n) (l:=l.take k) (o:=[]) (fun w hw=>HD.out.1.len w (List.mem_of_mem_take hw)) (by simp))
     rw [hxy] at HBN
     obtain ⟨bst,hbst⟩:∃ b,b=bestL (autV e) (autV f) (l.take k) []:=⟨_,rfl⟩
     rw [←hbst] at HBN HBX HBL
     rw [←hbst]
     have HPX:=H_ (show ∀ α,(bitI (endsU (autV e) x) α !=bitI (endsU (autV f) y) α)=(apartP (autV e) (autV f) (x,y)).testBit α from fun α=>bit_xor _ _ α)
     simp only at HBN
     obtain ⟨P,hP⟩:∃ P,P=apartP (autV e) (autV f) (x,y):=⟨_,rfl⟩
     rw [←hP] at HBN HPX
     have HEA:=H_ (fun w' (hb:Below wr.heap.size wr w')=>l5Ends_any _ _ _ (autV e) x w' (HABR.out.fst.below hb (le_ _)) hb.size HAO.out (by omega))
     have HEB:=H_ (fun w' (hb:Below wr.heap.size wr w')=>l5Ends_any _ _ _ (autV f) y w' (HABR.out.snd.below hb (le_ _)) hb.size HBO.out (by omega))
     have hEx:=HAO.out.endsLt x
     have hEy:=HBO.out.endsLt y
     obtain ⟨EX,hEX⟩:∃ E,E=endsU (autV e) x:=⟨_,rfl⟩
     obtain ⟨EY,hEY⟩:∃ E,E=endsU (autV f) y:=⟨_,rfl⟩
     rw [←hEX] at HEA HPX hEx
     rw [←hEY] at HEB HPX hEy
     have HW0:=H_ (show OwnI wr.heap.size wx.heap.size 3 wx (.slice ba bst.length bc) (bestW P tr bst 0)∧Below wr.heap.size wr wx from HBX.out)
     clear hxy hgs hcc hx0 hy0 htc hu hus hbst hP hEX hEY HBX
     go_wp2
     go_loopw [12,14] (fun vb i wy=>∃ j:Nat,j≤4∧i=.int .i64 (3-(j:Int))∧Hid (OwnI wr.heap.size wy.heap.size 3 wy vb (bestW P tr bst j)∧Below wr.heap.size wr wy)) (fun _ i _=>(intOf i+1).toNat)
     case atStart=>exact ⟨0,by omega,rfl,HW0⟩
     case round=>
      rename World=>wy
      clear HW0
      obtain ⟨j,hj,rfl,HY⟩:=hrel
      obtain ⟨ya,yc,hyv⟩:=Own.shape HY.out.1
      subst hyv
      have hwy:=HY.out.2.size
      by_cases hltj:j<4
      ·obtain ⟨α,hα⟩:∃ α:Nat,α=3-j:=⟨_,rfl⟩
       have hαi:(3-(j:Int))=(α:Int):=by omega
       rw [hαi]
       have hα4:α<4:=by omega
       have HTK:=H_ (bestW_take (x:=P) (tr:=tr) (best:=bst) (k:=j))
       have HLV:=H_ (bestW_leave (x:=P) (tr:=tr) (best:=bst) (k:=j))
       have HLW:=H_ (bestW_len (x:=P) (tr:=tr) (best:=bst) (n:=2*n) HTRL.out HBL.out j)
       rw [←hα] at HTK HLV
       have hαj1:α+j≤3:=by omega
       have hαj2:3≤α+j:=by omega
       clear hα hαi
       obtain ⟨bw,hbw⟩:∃ b,b=bestW P tr bst j:=⟨_,rfl⟩
       rw [←hbw] at HTK HLV HLW HY
       rw [←hbw]
       have hbl:bw.length≤43:=by have:=HLW.out;omega
       obtain ⟨D,hD⟩:∃ D,D=P.testBit α:=⟨_,rfl⟩
       have HDD:=H_ (show D=(bitI EX α !=bitI EY α) from by rw [HPX.out,hD])
       rw [←hD] at HTK HLV
       obtain ⟨w0,hw0⟩:∃ x_,x_=wy.alloc (.cells #[] 3):=⟨_,rfl⟩
       have hb0:Below wy.heap.size wy w0:=by rw [hw0];exact al_below _ _
       have hs0:w0.heap.size=wy.heap.size+1:=by rw [hw0];simp
       have E0:Hid (Own 1 wy.heap.size (wy.heap.size+1) 3 w0 (.slice (some ⟨wy.heap.size,0,none⟩) 0 0) 0 (ints [])):=H_ (by rw [hw0];exact Own.lit 1 3 wy (ints []) 0 (by omega) rfl)
       have HT0:=H_ (HTR.out.sl.below (HY.out.2.trans (hb0.mono hwy)) (le_ _))
       have ht0:=HTC.out w0 (HY.out.2.trans (hb0.mono hwy))
       have HB0:=H_ hb0
       have HW0:=H_ hw0
       rw [hw0] at ht0
       clear hbw hD hw0 hb0
       go_wp2_with (at_builtin;go_loud (rw [←HW0.out];refine wpList_app_sl rfl _ _ 22 rfl 3 (.int .i64 0) 1 8 Tryz.underlying22 info_int rfl (by decide) (by decide) rfl E0.out rfl HT0.out (ints_one _) ?c1 ?c2 ?_))
       case c1=>omega
       case c2=>omega
       intro v1 w1_ ho1 _ hout1 _
       have ho1':Own 1 wy.heap.size w1_.heap.size 3 w1_ v1 tr.length (ints tr):=by simpa [ints] using ho1
       have hz1:=hout1.size
       have HB1:=H_ (Below.outside HB0.out hout1 (le_ _) (by omega))
       have HO1:=H_ ho1'
       obtain ⟨xa,xc,rfl⟩:=Own.shape ho1'
       clear ho1 hout1 ho1' ht0 E0 HT0 HW0
       go_wp2_with (at_builtin;go_loud (refine wpList_app_lit_at w1_ rfl _ _ 22 rfl 3 (.int .i64 0) 1 8 Tryz.underlying22 info_int rfl (by decide) (by decide) rfl HO1.out 1 [.int .i64 (α:Nat)] rfl rfl (by intro u hu;simp only [List.mem_singleton] at hu;subst hu;rfl) rfl ?c1 ?c2 ?_))
       case c1=>omega
       case c2=>omega
       intro v2 w2_ ho2 hg2_ _ _
       have hz2_:(w1_.alloc (.cells #[.int .i64 (α:Nat)] 3)).heap.size=w1_.heap.size+1:=alloc_size _ _
       have hzg:=hg2_.size
       have ha2:=al_below w1_ (.cells #[.int .i64 (α:Nat)] 3)
       have HBY2:=H_ (Below.outside (HB1.out.trans (ha2.mono (by omega))) (grown_outside hg2_ (HO1.out.alloc (.cells #[.int .i64 (α:Nat)] 3)).lt) (le_ _) (by omega))
       have HXR:=H_ (show OwnI wr.heap.size w2_.heap.size 3 w2_ v2 (tr++[(α:Int)]) from (OwnI.len (show Own 1 wy.heap.size w2_.heap.size 3 w2_ v2 (tr.length+1) (ints (tr++[(α:Int)])) by rw [ints_append];exact ho2) (by simp)).lower hwy (le_ _))
       have hz22:=HBY2.out.size
       have HY2:=H_ (show OwnI wr.heap.size w2_.heap.size 3 w2_ (.slice ya bw.length yc) bw∧Below wr.heap.size wr w2_ from ⟨(HY.out.1.below HBY2.out (le_ _)).lower (le_ _) hz22,HY.out.2.trans (HBY2.out.mono hwy)⟩)
       obtain ⟨xb,xd,rfl⟩:=Own.shape ho2
       clear ho2 hg2_ ha2 HO1 HB1 HY
       have hw2r:=HY2.out.2.size
       have hbA:Below w2_.heap.size w2_ w2_.drew:=Below.drew (B_ _ _)
       have hgs:∀ w',Below w2_.heap.size w2_ w'→w'.cell? ⟨ga,0,none⟩=some (.slice a1 n1 c1)∧w'.cell? ⟨ga,1,none⟩=some (.slice a2 ss.length c2_)∧w'.cell? ⟨gb,0,none⟩=some (.slice a3 n2 c3)∧w'.cell? ⟨gb,1,none⟩=some (.slice a4 tt.length c4)∧w'.cell? ⟨ng,k,none⟩=some (.slice (some ⟨g2,0,none⟩) 2 c2)∧w'.cell? ⟨g2,0,none⟩=some (.int .i64 (x:Nat))∧w'.cell? ⟨g2,1,none⟩=some (.int .i64 (y:Nat)):=fun w' hb=>HGS.out w' (HY2.out.2.trans (hb.mono hw2r))
       have hS:=hgs w2_ (B_ _ _)
       have hSA:=hgs _ hbA
       have HGT:=H_ hgs
       have hdz:w2_.drew.heap.size=w2_.heap.size:=rfl
       clear hgs
       go_upto_region 19 with fail
       go_cut [16] (fun v wz=>v=.bool D∧Hid (Below w2_.heap.size w2_ wz))
       case first=>
        obtain ⟨dx,hdx⟩:∃ d,d=bitI EX α:=⟨_,rfl⟩
        obtain ⟨dy,hdy⟩:∃ d,d=bitI EY α:=⟨_,rfl⟩
        have HL1:=H_ (l1BitG EX α (by omega) (by omega))
        have HL2:=H_ (l1BitG EY α (by omega) (by omega))
        rw [←hdx,←hdy] at HDD
        rw [←hdx] at HL1
        rw [←hdy] at HL2
        clear hdx hdy
        go_region_held3 (fun w'=>w'.cell? ⟨ga,0,none⟩=some (.slice a1 n1 c1)∧w'.cell? ⟨ga,1,none⟩=some (.slice a2 ss.length c2_)∧w'.cell? ⟨gb,0,none⟩=some (.slice a3 n2 c3)∧w'.cell? ⟨gb,1,none⟩=some (.slice a4 tt.length c4)∧w'.cell? ⟨ng,k,none⟩=some (.slice (some ⟨g2,0,none⟩) 2 c2)∧w'.cell? ⟨g2,0,none⟩=some (.int .i64 (x:Nat))∧w'.cell? ⟨g2,1,none⟩=some (.int .i64 (y:Nat))) (first | with_reducible assumption | go_keep) (first
         | (go_at_call_of 112 (Value.agg #[.slice a1 n1 c1,.slice a2 ss.length c2_]);refine (HEA.out w2_.drew (HY2.out.2.trans (hbA.mono hw2r))).mono ?_;rintro e9 w9 ⟨rfl,hb_⟩;(have hz9:=hb_.size);(have hb9:=hbA.trans (hb_.mono (by omega)));(have hS9:=HGT.out _ hb9);(have HB9:=H_ hb9);clear hb_ hb9)
         | (go_at_call_of 109 (Value.int .i64 ((EX:Nat):Int));refine (HL1.out _).mono ?_;rintro e_ _ ⟨rfl,rfl⟩)
         | (go_at_call_of 112 (Value.agg #[.slice a3 n2 c3,.slice a4 tt.length c4]);refine (HEB.out w9 (HY2.out.2.trans (HB9.out.mono hw2r))).mono ?_;rintro e10 w10 ⟨rfl,hb_⟩;(have hz10:=hb_.size);(have hb10:=HB9.out.trans (hb_.mono (by omega)));(have hS10:=HGT.out _ hb10);(have HB10:=H_ hb10);clear hb_ hb10)
         | (go_at_call_of 109 (Value.int .i64 ((EY:Nat):Int));refine (HL2.out _).mono ?_;rintro e_ _ ⟨rfl,rfl⟩))
        go_wp2_with fail
        go_meet
        exact ⟨by rw [HDD.out],HB10⟩
       obtain ⟨rfl,HBZ⟩:=hcut
       obtain ⟨wz,rfl⟩:∃ x_,x_=wc:=⟨_,rfl⟩
       have hwz:=HBZ.out.size
       have HYZ:=H_ (show OwnI wr.heap.size wz.heap.size 3 wz (.slice ya bw.length yc) bw∧Below wr.heap.size wr wz from ⟨(HY2.out.1.below HBZ.out (le_ _)).lower (le_ _) hwz,HY2.out.2.trans (HBZ.out.mono hw2r)⟩)
       have HXZ:=H_ ((HXR.out.below HBZ.out (le_ _)).lower (le_ _) hwz)
       have HI4:=H_ (show ((α:Int)-1)=3-((j+1:Nat):Int) from by omega)
       clear hS hSA hbA hdz HGT HY2 HXR HBZ HBY2 HDD
       cases D with
       | false=>
        have HN:=H_ (HLV.out rfl)
        go_wp2
        go_roundw
        case rel=>exact ⟨j+1,by omega,by rw [HI4.out],H_ ⟨by rw [HN.out];exact HYZ.out.1,HYZ.out.2⟩⟩
        case measure=>first | (simp [intOf];done) | (simp [intOf];omega)
       | true=>
        by_cases he:bw=[]
        ·have HN:=H_ (HTK.out (by rw [he];rfl))
         have g9:((bw.length:Int)==0)=true:=by simp [he]
         clear he
         go_wp2
         go_roundw
         case rel=>exact ⟨j+1,by omega,by rw [HI4.out],H_ ⟨by rw [HN.out];exact OwnI.len HXZ.out (by simp),HYZ.out.2⟩⟩
         case measure=>first | (simp [intOf];done) | (simp [intOf];omega)
        ·have g9:((bw.length:Int)==0)=false:=by simp [he]
         have HIE:=H_ (show bw.isEmpty=false by simp [he])
         clear he
         go_wp2_with fail
         refine (l1Less_any _ _ _ _ _ _ (tr++[(α:Int)]) bw wz HXZ.out.sl HYZ.out.1.sl (by simp;omega) (by omega)).mono ?_
         rintro e5 wq ⟨rfl,hb5⟩
         have hwq:=hb5.size
         have HYQ:=H_ (show OwnI wr.heap.size wq.heap.size 3 wq (.slice ya bw.length yc) bw∧Below wr.heap.size wr wq from ⟨(HYZ.out.1.below hb5 (le_ _)).lower (le_ _) hwq,HYZ.out.2.trans (hb5.mono (by omega))⟩)
         have HXQ:=H_ ((HXZ.out.below hb5 (le_ _)).lower (le_ _) hwq)
         clear hb5
         cases hl:ltL (tr++[(α:Int)]) bw
         ·have HN:=H_ (HLV.out (by rw [hl,HIE.out];rfl))
          clear hl
          go_wp2
          go_roundw
          case rel=>exact ⟨j+1,by omega,by rw [HI4.out],H_ ⟨by rw [HN.out];exact HYQ.out.1,HYQ.out.2⟩⟩
          case measure=>first | (simp [intOf];done) | (simp [intOf];omega)
         ·have HN:=H_ (HTK.out (by rw [hl];simp))
          clear hl
          go_wp2
          go_roundw
          case rel=>exact ⟨j+1,by omega,by rw [HI4.out],H_ ⟨by rw [HN.out];exact OwnI.len HXQ.out (by simp),HYQ.out.2⟩⟩
          case measure=>first | (simp [intOf];done) | (simp [intOf];omega)
      ·obtain rfl:j=4:=by omega
       have HY4:=H_ (show OwnI wr.heap.size wy.heap.size 3 wy (.slice ya (bestL (autV e) (autV f) (l.take (k+1)) []).length yc) (bestL (autV e) (autV f) (l.take (k+1)) [])∧Below wr.heap.size wr wy from by rw [HBN.out];exact HY.out)
       have hneg:((3:Int)-((4:Nat):Int))=-1:=by decide
       rw [hneg]
       have HLE:=H_ (congrArg List.length HBN.out)
       rw [←HLE.out]
       clear hneg
       go_wp2
       go_roundw
       case rel=>exact ⟨k+1,by omega,by go_num,HY4⟩
       case measure=>first | (simp [intOf];done) | (simp [intOf];omega)
    ·obtain rfl:k=l.length:=by omega
     have hwx:=HBX.out.2.size
     have HLB:=H_ (bestL_len (a:=autV e) (b:=autV f) (n:=2*n) (l:=l) (o:=[]) (fun w hw=>HD.out.1.len w hw) (by simp))
     have HTL:=H_ (fun h=>lev_tells (a:=autV e) (b:=autV f) (seen:=seen++l.map (·.1)) hlt HD.out.2.1 h)
     have HGL:=H_ (fun h q f_ (hq:(q,f_)=goL (autV e) (autV f) (seen++l.map (·.1),[]) l)=>lev_goes (a:=autV e) (b:=autV f) (seen:=seen++l.map (·.1)) hlt HD.out.2.1 h hq)
     rw [List.take_length] at HBX
     rw [List.take_length]
     obtain ⟨bst,hbst⟩:∃ b,b=bestL (autV e) (autV f) l []:=⟨_,rfl⟩
     rw [←hbst] at HBX HLB HTL HGL
     rw [←hbst]
     have hl64:bst.length≤64:=by have:=HLB.out;omega
     clear hbst
     by_cases hb0:bst=[]
     ·have HLN:=H_ (HGL.out hb0)
      have g9:bst.length≤0:=by simp [hb0]
      have HIX:=H_ (HI.out.go HBX.out.2)
      have HSX:=H_ (HSR.out.below HBX.out.2 HI.out.hi)
      obtain ⟨gN,cN,sn,eN,hN⟩:=HIX.out.now
      injection eN with eN1 eN2 eN3
      injection eN1 with eN1
      injection eN1 with eN1
      subst eN1 eN3
      have HNX:=H_ hN
      have hsl9:sl_.length≤1048576:=by rw [HSL.out];omega
      have hsn9:sn.length≤1048576:=by omega
      have hB0:=HI.out.hi
      have hB1:=HI.out.lo
      clear hN eN2 hb0 HGL HTL HLB
      go_wp2_with (at_builtin;go_loud (refine wpList_app_sl rfl _ _ 119 rfl 22 (.slice none 0 0) 1 24 Tryz.underlying119 info_ints rfl (by decide) (by decide) rfl HSX.out.1 rfl HNX.out.1.sl HNX.out.cellsOne ?c1 ?c2 ?_))
      case c1=>omega
      case c2=>omega
      intro v9 w9 ho9 hg9 _ _
      have HG9:=H_ (LvS.grow HIX.out HSX.out HNX.out ho9 hg9)
      have HO9:=H_ ho9
      obtain ⟨za,zc,rfl⟩:=Own.shape ho9
      have hz49:=HG9.out.below.size
      obtain ⟨wt,hwt⟩:∃ x_,x_=(w9.alloc (.cells #[] 22)).alloc (.cells #[] 22):=⟨_,rfl⟩
      have HF0:=H_ (show FuT w9 wt (.slice (some ⟨w9.heap.size,0,none⟩) 0 0) (.slice (some ⟨w9.heap.size+1,0,none⟩) 0 0) (([]:List Way2).map (·.2)) (([]:List Way2).map (·.1)) from by rw [hwt];exact FuT.start w9)
      have HD0:=H_ (HD.out.1.start (2*n+2))
      obtain ⟨seen2,hs2⟩:∃ s,s=seen++l.map (·.1):=⟨_,rfl⟩
      rw [←hs2] at HD0 HG9 HLN HLG
      have HS2:=H_ hs2
      have hs2l:seen2.length≤1048576:=by rw [hs2,List.length_append,List.length_map];omega
      clear ho9 hg9 hs2
      go_upto_region 27 with fail
      simp only [←hwt]
      clear hwt
      go_wp2
      go_loopw [17,18,19] (fun vt vn i wx=>∃ (k:Nat) (f_:List Way2),k≤l.length∧i=.int .i64 k∧Hid (FuT w9 wx vt vn (f_.map (·.2)) (f_.map (·.1)))∧Hid (DLv (2*n+2) seen2 f_∧(seen2++f_.map (·.1),f_)=goL (autV e) (autV f) (seen2,[]) (l.take k))) (fun _ _ i _=>l.length-(intOf i).toNat)
      case atStart=>exact ⟨0,[],by omega,rfl,HF0,H_ ⟨HD0.out,by simp [goL]⟩⟩
      case round=>
       rename World=>wu
       clear HF0 HD0
       obtain ⟨k,f_,hk,rfl,HF,HDF⟩:=hrel
       obtain ⟨fg,fc,hfv⟩:=HF.out.tr.shape
       subst hfv
       obtain ⟨fh,fd,hfv⟩:=HF.out.now.shape
       subst hfv
       simp only [List.length_map] at HF ⊢
       by_cases hltk:k<l.length
       ·obtain ⟨⟨⟨x,y⟩,tr⟩,hxy⟩:∃ q:Way2,l[k]=q:=⟨_,rfl⟩
        have htr:tr.length=2*n:=by
         have:=HD.out.1.len _ (List.getElem_mem hltk)
         rw [hxy] at this
         exact this
        have HTRL:=H_ htr
        have htr42:tr.length≤42:=by omega
        clear htr
        obtain ⟨hx10,hy10⟩:x<1024∧y<1024:=HD.out.1.small (x,y) (List.mem_append.2 (.inr (List.mem_map.2 ⟨_,List.getElem_mem hltk,by rw [hxy]⟩)))
        obtain ⟨g2,c2,hg,hg2,hcc,hx0,hy0⟩:=HG9.out.now.at k (by simpa using hltk) x y (by simp [hxy])
        obtain ⟨u,htg,htc,hu⟩:=HG9.out.tr.at k (by simpa using hltk)
        rw [List.getElem_map,hxy] at hu
        have HTR:=H_ hu
        obtain ⟨ta,tcc,hus⟩:=Own.shape hu
        simp only at hus
        rw [hus] at htc HTR
        have HAB9:=H_ (HAB.out.go HG9.out.below)
        obtain ⟨sv,hsv⟩:=HG9.out.seen
        have HSN:=H_ (fun w' (hb:Below w9.heap.size w9 w')=>(hsv.below hb (le_ _)).sl)
        have hgs:∀ w',Below w9.heap.size w9 w'→w'.cell? ⟨ga,0,none⟩=some (.slice a1 n1 c1)∧w'.cell? ⟨ga,1,none⟩=some (.slice a2 ss.length c2_)∧w'.cell? ⟨gb,0,none⟩=some (.slice a3 n2 c3)∧w'.cell? ⟨gb,1,none⟩=some (.slice a4 tt.length c4)∧w'.cell? ⟨ng,k,none⟩=some (.slice (some ⟨g2,0,none⟩) 2 c2)∧w'.cell? ⟨g2,0,none⟩=some (.int .i64 (x:Nat))∧w'.cell? ⟨g2,1,none⟩=some (.int .i64 (y:Nat)):=fun w' hb=>⟨(HAB9.out.go hb).one.cell 0,(HAB9.out.go hb).one.cell 1,(HAB9.out.go hb).two.cell 0,(HAB9.out.go hb).two.cell 1,(hb.cell (p:=⟨ng,k,none⟩) hg).trans hcc,(hb.cell (p:=⟨g2,0,none⟩) hg2).trans hx0,(hb.cell (p:=⟨g2,1,none⟩) hg2).trans hy0⟩
        have HGS:=H_ hgs
        have HTC:=H_ (show ∀ w',Below w9.heap.size w9 w'→w'.cell? ⟨tg,k,none⟩=some (.slice ta tr.length tcc) from fun w' hb=>(hb.cell (p:=⟨tg,k,none⟩) htg).trans htc)
        have HGO:=H_ (goL_step (a:=autV e) (b:=autV f) hltk (seen2,[]))
        rw [hxy] at HGO
        obtain ⟨S0,hS0⟩:∃ S,S=goL (autV e) (autV f) (seen2,[]) (l.take k):=⟨_,rfl⟩
        rw [←hS0] at HGO HDF
        have HDW:=H_ (show DLv (2*n+2) seen2 f_∧(seen2++f_.map (·.1),f_)=goW (autV e) (autV f) ((x,y),tr) S0 0 from HDF.out)
        clear hxy hgs hcc hx0 hy0 htc hu hus hsv hS0 HDF
        go_wp2
        go_loopw [17,18,20] (fun vt vn i wx=>∃ (m:Nat) (f_:List Way2),m≤12∧i=.int .i64 m∧Hid (FuT w9 wx vt vn (f_.map (·.2)) (f_.map (·.1)))∧Hid (DLv (2*n+2) seen2 f_∧(seen2++f_.map (·.1),f_)=goW (autV e) (autV f) ((x,y),tr) S0 m)) (fun _ _ i _=>12-(intOf i).toNat)
        case atStart=>exact ⟨0,f_,by omega,rfl,HF,HDW⟩
        case round=>
         rename World=>wx
         clear HF HDW
         obtain ⟨m,f_,hm12,rfl,HF,HDW⟩:=hrel
         obtain ⟨fg,fc,st_,hvt,hst⟩:=HF.out.tr
         subst hvt
         obtain ⟨fh,fd,sn_,hvn,hsn⟩:=HF.out.now
         subst hvn
         have HST:=H_ hst
         have HSN2:=H_ hsn
         have hfew:=HDW.out.1.few
         have hstl:st_.length≤1048576:=by have:=hst.2.1;rw [List.length_map] at this;omega
         have hsnl:sn_.length≤1048576:=by have:=hsn.2.1;rw [prL_len,List.length_map] at this;omega
         have hwx9:=HF.out.below.size
         clear hst hsn
         by_cases hltm:m<12
         ·have hbA:Below wx.heap.size wx wx.drew:=Below.drew (B_ _ _)
          have hgs:∀ w',Below wx.heap.size wx w'→w'.cell? ⟨ga,0,none⟩=some (.slice a1 n1 c1)∧w'.cell? ⟨ga,1,none⟩=some (.slice a2 ss.length c2_)∧w'.cell? ⟨gb,0,none⟩=some (.slice a3 n2 c3)∧w'.cell? ⟨gb,1,none⟩=some (.slice a4 tt.length c4)∧w'.cell? ⟨ng,k,none⟩=some (.slice (some ⟨g2,0,none⟩) 2 c2)∧w'.cell? ⟨g2,0,none⟩=some (.int .i64 (x:Nat))∧w'.cell? ⟨g2,1,none⟩=some (.int .i64 (y:Nat)):=fun w' hb=>HGS.out w' (HF.out.below.trans (hb.mono hwx9))
          have hS:=hgs wx (B_ _ _)
          have hSA:=hgs _ hbA
          have HGT:=H_ hgs
          have hdz:wx.drew.heap.size=wx.heap.size:=rfl
          have HC1:=H_ (fun w7 (hb:Below wx.heap.size wx w7)=>l5Step_any _ _ _ (autV e) x m w7 (HAB9.out.fst.below (HF.out.below.trans (hb.mono hwx9)) (le_ _)) (by have:=hb.size;omega) HAO.out (by omega) hltm)
          have HC2:=H_ (fun w7 (hb:Below wx.heap.size wx w7)=>l5Step_any _ _ _ (autV f) y m w7 (HAB9.out.snd.below (HF.out.below.trans (hb.mono hwx9)) (le_ _)) (by have:=hb.size;omega) HBO.out (by omega) hltm)
          have HNP:Hid (nextP (autV e) (autV f) (x,y) m=(stepU (autV e) x m,stepU (autV f) y m)):=H_ rfl
          have HXY:=H_ (show stepU (autV e) x m<1024∧stepU (autV f) y m<1024 from ⟨HAO.out.step _ hltm,HBO.out.step _ hltm⟩)
          have HIN:=H_ (fun h=>dif_in (a:=autV e) (b:=autV f) (w:=((x,y),tr)) HDW.out.2 h)
          have HOUT:=H_ (fun h1 h2=>dif_out (a:=autV e) (b:=autV f) (w:=((x,y),tr)) HDW.out.2 h1 h2)
          obtain ⟨X,hX⟩:∃ X,X=stepU (autV e) x m:=⟨_,rfl⟩
          obtain ⟨Y,hY⟩:∃ Y,Y=stepU (autV f) y m:=⟨_,rfl⟩
          rw [←hX,←hY] at HNP HXY
          rw [←hX] at HC1
          rw [←hY] at HC2
          simp only [HNP.out] at HIN HOUT
          clear hgs hX hY
          go_upto_region 33 with fail
          go_region_held3 (fun w'=>w'.cell? ⟨ga,0,none⟩=some (.slice a1 n1 c1)∧w'.cell? ⟨ga,1,none⟩=some (.slice a2 ss.length c2_)∧w'.cell? ⟨gb,0,none⟩=some (.slice a3 n2 c3)∧w'.cell? ⟨gb,1,none⟩=some (.slice a4 tt.length c4)∧w'.cell? ⟨ng,k,none⟩=some (.slice (some ⟨g2,0,none⟩) 2 c2)∧w'.cell? ⟨g2,0,none⟩=some (.int .i64 (x:Nat))∧w'.cell? ⟨g2,1,none⟩=some (.int .i64 (y:Nat))) (first | with_reducible assumption | go_keep) (first
           | (go_at_call 114;refine (HC1.out wx.drew hbA).mono ?_;rintro e7 w7 ⟨rfl,hb_⟩;(have hz7:=hb_.size);(have hb7:=hbA.trans (hb_.mono (le_ _)));(have hS7:=HGT.out _ hb7);(have HB7:=H_ hb7);clear hb_ hb7))
          have hbB:Below wx.heap.size wx w7.drew:=Below.drew HB7.out
          have hSB:=HGT.out _ hbB
          have hdz7:w7.drew.heap.size=w7.heap.size:=rfl
          clear hSA hbA hS
          go_upto_region 34 with fail
          go_region_held3 (fun w'=>w'.cell? ⟨ga,0,none⟩=some (.slice a1 n1 c1)∧w'.cell? ⟨ga,1,none⟩=some (.slice a2 ss.length c2_)∧w'.cell? ⟨gb,0,none⟩=some (.slice a3 n2 c3)∧w'.cell? ⟨gb,1,none⟩=some (.slice a4 tt.length c4)∧w'.cell? ⟨ng,k,none⟩=some (.slice (some ⟨g2,0,none⟩) 2 c2)∧w'.cell? ⟨g2,0,none⟩=some (.int .i64 (x:Nat))∧w'.cell? ⟨g2,1,none⟩=some (.int .i64 (y:Nat))) (first | with_reducible assumption | go_keep) (first
           | (go_at_call 114;refine (HC2.out w7.drew hbB).mono ?_;rintro e8 w8 ⟨rfl,hb_⟩;(have hz8:=hb_.size);(have hb8:=hbB.trans (hb_.mono (by omega)));(have hS8:=HGT.out _ hb8);(have HB8:=H_ hb8);clear hb_ hb8))
          clear hS7 hS8 hSB hbB hdz7 HGT HC1 HC2
          have HF8:=H_ (HF.out.go HB8.out)
          have hzx8:=HB8.out.size
          have HW8:=H_ (HF8.out.below)
          have hw89:=HW8.out.size
          go_wp2_with fail
          refine (l6Has_any _ _ _ seen2 X Y w8 (HSN.out w8 HW8.out) (by omega) (by omega)).mono ?_
          rintro eA wA ⟨rfl,hbA⟩
          have hzA:=hbA.size
          have HBA:=H_ (HB8.out.trans (hbA.mono (by omega)))
          have HFA:=H_ (HF8.out.go hbA)
          clear hbA HB7 HB8 HF8 HW8 HF
          by_cases hm1:(X,Y)∈seen2
          ·have hdm:decide ((X,Y)∈seen2)=true:=by simp [hm1]
           have HN:=H_ (HIN.out (.inl hm1))
           rw [hdm]
           clear hdm hm1
           go_wp2
           go_roundw
           case rel=>exact ⟨m+1,f_,by omega,by go_num,HFA,H_ ⟨HDW.out.1,HN.out⟩⟩
           case measure=>first | (simp [intOf];done) | (simp [intOf];omega)
          ·have hdm:decide ((X,Y)∈seen2)=false:=by simp [hm1]
           have HM1:=H_ hm1
           rw [hdm]
           clear hdm hm1
           go_wp2_with fail
           refine (l6Has_any _ _ _ (f_.map (·.1)) X Y wA HFA.out.now.sl (le_ _) (by rw [List.length_map];omega)).mono ?_
           rintro eC wC ⟨rfl,hbC⟩
           have hzC:=hbC.size
           have HFC:=H_ (HFA.out.go hbC)
           have HSNC:=H_ ((HSN2.out.below (HBA.out.trans (hbC.mono (by have:=HBA.out.size;omega))) (le_ _)).lower (le_ _) (by have:=HBA.out.size;omega:wx.heap.size≤wC.heap.size))
           have HFB:=H_ HFC.out.below
           have hzC9:=HFB.out.size
           clear hbC HFA HSN2 HST HBA
           by_cases hm2:(X,Y)∈f_.map (·.1)
           ·have hdm:decide ((X,Y)∈f_.map (·.1))=true:=by simp [hm2]
            have HN:=H_ (HIN.out (.inr hm2))
            rw [hdm]
            clear hdm hm2
            go_wp2
            go_roundw
            case rel=>exact ⟨m+1,f_,by omega,by go_num,HFC,H_ ⟨HDW.out.1,HN.out⟩⟩
            case measure=>first | (simp [intOf];done) | (simp [intOf];omega)
           ·have hdm:decide ((X,Y)∈f_.map (·.1))=false:=by simp [hm2]
            have HN:=H_ (HOUT.out HM1.out hm2)
            have HDV:=H_ (HDW.out.1.push (p:=(X,Y)) (t:=tr++[((m/3:Nat):Int),16+((m%3:Nat):Int)]) (fun h=>(List.mem_append.1 h).elim HM1.out hm2) HXY.out (by rw [List.length_append,HTRL.out];rfl))
            rw [hdm]
            clear hdm hm2 HIN HOUT
            obtain ⟨wD,hwD⟩:∃ x_,x_=wC.alloc (.cells #[.int .i64 (X:Nat),.int .i64 (Y:Nat)] 3):=⟨_,rfl⟩
            have hbD:Below wC.heap.size wC wD:=by rw [hwD];exact al_below _ _
            have hzD:wD.heap.size=wC.heap.size+1:=by rw [hwD];simp
            have HQD:=H_ ((HSNC.out.below hbD (le_ _)).lower (le_ _) (show wC.heap.size≤wD.heap.size by omega))
            have HRD:Hid (OwnI w9.heap.size wD.heap.size 3 wD (.slice (some ⟨wC.heap.size,0,none⟩) 2 2) [(X:Int),(Y:Int)]):=H_ (by
             have h:=Own.lit 1 3 wC (ints [(X:Int),(Y:Int)]) 2 (by omega) rfl
             rw [hzD,hwD]
             exact OwnI.lower (show OwnI wC.heap.size (wC.heap.size+1) 3 _ _ [(X:Int),(Y:Int)] from h) (by omega) (le_ _))
            have HFD:=H_ (HFC.out.go hbD)
            have HWD:=H_ hwD
            have HZD:=H_ hzD
            clear hwD hbD HSNC HFC
            go_wp2_with (at_builtin;go_loud (refine wpList_app_lit_at wD rfl _ _ 119 rfl 22 (.slice none 0 0) 1 24 Tryz.underlying119 info_ints rfl (by decide) (by decide) rfl HQD.out.1 1 [.slice (some ⟨wC.heap.size,0,none⟩) 2 2] (by rw [HZD.out];rfl) rfl (by intro u hu;simp only [List.mem_singleton] at hu;subst hu;rfl) (by rw [HWD.out]) ?c1 ?c2 ?_))
            case c1=>omega
            case c2=>omega
            intro vE wE hoE hgE hlE _
            rw [←HWD.out] at hgE
            replace hlE:vE.ownBlock=(Value.slice (some ⟨fh,0,none⟩) sn_.length fd).ownBlock∨vE.ownBlock=some (wD.alloc (.cells #[.slice (some ⟨wC.heap.size,0,none⟩) 2 2] 22)).heap.size:=by
             rw [alloc_size,HZD.out]
             exact hlE
            have HFE:=H_ (FuT.pushNow (p:=(X,Y)) HFD.out HQD.out HRD.out hoE hgE hlE)
            obtain ⟨yE,ycE,rfl⟩:=Own.shape hoE
            clear hoE hgE hlE HQD HRD HFD
            obtain ⟨fg_,fc_,st2,hvt,hst⟩:=HFE.out.tr
            injection hvt with hv1 hv2 hv3
            injection hv1 with hv1
            injection hv1 with hv1
            subst hv1 hv3
            rw [hv2] at hst HFE hstl
            rw [hv2]
            have HSE:=H_ hst
            clear hst hv2
            have hwE9:=HFE.out.below.size
            obtain ⟨w0,hw0⟩:∃ x_,x_=wE.alloc (.cells #[] 3):=⟨_,rfl⟩
            have hb0:Below wE.heap.size wE w0:=by rw [hw0];exact al_below _ _
            have hs0:w0.heap.size=wE.heap.size+1:=by rw [hw0];simp
            have E0:Hid (Own 1 wE.heap.size (wE.heap.size+1) 3 w0 (.slice (some ⟨wE.heap.size,0,none⟩) 0 0) 0 (ints [])):=H_ (by rw [hw0];exact Own.lit 1 3 wE (ints []) 0 (by omega) rfl)
            have HT0:=H_ (HTR.out.sl.below (HFE.out.below.trans (hb0.mono hwE9)) (le_ _))
            have ht0:=HTC.out w0 (HFE.out.below.trans (hb0.mono hwE9))
            have HB0:=H_ hb0
            have HW0:=H_ hw0
            rw [hw0] at ht0
            clear hw0 hb0
            go_wp2_with (at_builtin;go_loud (rw [←HW0.out];refine wpList_app_sl rfl _ _ 22 rfl 3 (.int .i64 0) 1 8 Tryz.underlying22 info_int rfl (by decide) (by decide) rfl E0.out rfl HT0.out (ints_one _) (by omega) (by omega) ?_))
            intro v1 w1_ ho1 _ hout1 _
            have ho1':Own 1 wE.heap.size w1_.heap.size 3 w1_ v1 tr.length (ints tr):=by simpa [ints] using ho1
            have hz1:=hout1.size
            have HB1:=H_ (Below.outside HB0.out hout1 (le_ _) (by omega))
            have HO1:=H_ ho1'
            obtain ⟨xa,xc,rfl⟩:=Own.shape ho1'
            clear ho1 hout1 ho1' ht0 E0 HT0 HW0 HB0
            go_wp2_with (at_builtin;go_loud (refine wpList_app_lit_at w1_ rfl _ _ 22 rfl 3 (.int .i64 0) 1 8 Tryz.underlying22 info_int rfl (by decide) (by decide) rfl HO1.out 2 [.int .i64 ((m:Int)/3),.int .i64 (16+(m:Int)%3)] rfl rfl (by intro u hu;simp only [List.mem_cons,List.not_mem_nil,or_false] at hu;rcases hu with hu | hu<;>(subst hu;rfl)) rfl (by omega) (by omega) ?_))
            intro v2 w2_ ho2 hg2_ _ _
            have hzg:=hg2_.size
            have hz2_:(w1_.alloc (.cells #[.int .i64 ((m:Int)/3),.int .i64 (16+(m:Int)%3)] 3)).heap.size=w1_.heap.size+1:=alloc_size _ _
            have ha2:=al_below w1_ (.cells #[.int .i64 ((m:Int)/3),.int .i64 (16+(m:Int)%3)] 3)
            have HBE2:=H_ (Below.outside (HB1.out.trans (ha2.mono (by omega))) (grown_outside hg2_ (HO1.out.alloc (.cells #[.int .i64 ((m:Int)/3),.int .i64 (16+(m:Int)%3)] 3)).lt) (le_ _) (by omega))
            have hz22:=HBE2.out.size
            have HXR:=H_ (show OwnI w9.heap.size w2_.heap.size 3 w2_ v2 (tr++[((m/3:Nat):Int),16+((m%3:Nat):Int)]) from (OwnI.len (show Own 1 wE.heap.size w2_.heap.size 3 w2_ v2 (tr.length+2) (ints (tr++[((m/3:Nat):Int),16+((m%3:Nat):Int)])) by
             rw [ints_append,show ((m/3:Nat):Int)=(m:Int)/3 by omega,show ((m%3:Nat):Int)=(m:Int)%3 by omega]
             exact ho2) (by simp)).lower hwE9 (le_ _))
            have HS2_:=H_ ((HSE.out.below HBE2.out (le_ _)).lower (le_ _) hz22)
            have HF2:=H_ (HFE.out.go HBE2.out)
            obtain ⟨xb,xd,rfl⟩:=Own.shape ho2
            clear ho2 hg2_ ha2 HO1 HB1 HFE HSE
            go_wp2_with (at_builtin;go_loud (refine wpList_app_lit_at w2_ rfl _ _ 119 rfl 22 (.slice none 0 0) 1 24 Tryz.underlying119 info_ints rfl (by decide) (by decide) rfl HS2_.out.1 1 [.slice xb (tr.length+2) xd] rfl rfl (by intro u hu;simp only [List.mem_singleton] at hu;subst hu;rfl) rfl (by omega) (by omega) ?_))
            intro vG wG hoG hgG hlG _
            replace hlG:vG.ownBlock=(Value.slice (some ⟨fg,0,none⟩) st2.length fc).ownBlock∨vG.ownBlock=some (w2_.alloc (.cells #[.slice xb (tr.length+2) xd] 22)).heap.size:=by
             rw [alloc_size]
             exact hlG
            have HFG:=H_ (FuT.pushTr HF2.out HS2_.out HXR.out hoG hgG hlG)
            obtain ⟨yG,ycG,rfl⟩:=Own.shape hoG
            clear hoG hgG hlG HS2_ HXR HF2
            go_wp2
            go_roundw
            case rel=>exact ⟨m+1,f_++[((X,Y),tr++[((m/3:Nat):Int),16+((m%3:Nat):Int)])],by omega,by go_num,H_ (by rw [List.map_append,List.map_append];exact HFG.out),H_ ⟨HDV.out,HN.out⟩⟩
            case measure=>first | (simp [intOf];done) | (simp [intOf];omega)
         ·obtain rfl:m=12:=by omega
          have HG12:=H_ (show DLv (2*n+2) seen2 f_∧(seen2++f_.map (·.1),f_)=goL (autV e) (autV f) (seen2,[]) (l.take (k+1)) from ⟨HDW.out.1,by rw [HGO.out];exact HDW.out.2⟩)
          clear HDW
          go_wp2
          go_roundw
          case rel=>exact ⟨k+1,f_,by omega,by go_num,HF,HG12⟩
          case measure=>first | (simp [intOf];done) | (simp [intOf];omega)
       ·obtain rfl:k=l.length:=by omega
        have HGF:=H_ (show (seen2++f_.map (·.1),f_)=goL (autV e) (autV f) (seen2,[]) l from by
         have h:=HDF.out.2
         rwa [List.take_length] at h)
        have HLV:=H_ (show LvS w4 wu w9.heap.size (.slice za (sl_.length+sn.length) zc) (.slice (some ⟨fg,0,none⟩) f_.length fc) (.slice (some ⟨fh,0,none⟩) f_.length fd) seen2 f_ from by
         obtain ⟨sv,hsv⟩:=HG9.out.seen
         exact ⟨hz49,HF.out.below.size,⟨sv,hsv.below HF.out.below (le_ _)⟩,HF.out.tr,HF.out.now,HG9.out.below.trans (HF.out.below.mono hz49)⟩)
        have HDN:=H_ (show DLv (2*(n+1)) seen2 f_∧WaysI (2*(n+1)) f_∧seen2++f_.map (·.1)≠[] from ⟨HDF.out.1,by
         have h:=goL_ways (a:=autV e) (b:=autV f) l HD.out.2.1 (seen2,[]) ⟨by simp,by simp⟩ (by simp)
         rw [←HGF.out] at h
         exact h,by
         rw [HS2.out]
         intro h
         exact HD.out.2.2 (List.append_eq_nil_iff.1 h).1⟩)
        have HLG2:=H_ (show levGo (autV e) (autV f) (21-(n+1)) (seen2++f_.map (·.1)) f_=differV e f from by rw [←HLG.out];exact (HLN.out _ _ HGF.out).symm)
        go_wp2
        go_roundw
        case rel=>exact ⟨n+1,_,seen2,f_,by omega,by go_num,HLV,HDN,HLG2⟩
        case measure=>first | (simp [intOf];done) | (simp [intOf];omega)
     ·have HT:=H_ (show differV e f=some bst from by rw [←HLG.out];exact HTL.out hb0)
      have hpos:0<bst.length:=by cases bst with | nil=>exact absurd rfl hb0 | cons=>simp
      clear hb0
      go_wp2
      refine bodyPost_ret (v:=.tuple #[.slice ba bst.length bc,.bool true]) (by simp [results,Tryz.results59,go_sem]) rfl ?_
      exact RetV.mk _ rfl ⟨.inl ⟨_,_,HT.out,rfl,HBX.out.1.lower (by omega) (le_ _),hl64⟩,HBw4.out.trans ((HI.out.below.trans (HBX.out.2.mono hwr)).mono hw04)⟩
  ·obtain rfl:n=21:=by omega
   have HE:=H_ (show differV e f=none from HLG.out.symm)
   have hdn:decide (((21:Nat):Int)≤20)=false:=by decide
   go_wp2
   refine bodyPost_ret (v:=.tuple #[.slice (some ⟨wr.heap.size,0,none⟩) 0 0,.bool false]) (by simp [results,Tryz.results59,go_sem]) rfl ?_
   exact RetV.mk _ rfl ⟨.inr ⟨HE.out,_,rfl⟩,HBw4.out.trans ((HI.out.below.mono hw04).trans ((al_below _ _).mono (by omega)))⟩
end Go.Proofs.YtfnnhimopokpnaaGreatDoor
