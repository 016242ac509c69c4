/- Lemmas for this seat; no condition. -/
import Derived.Test.YtfnnhimopokpnaaGreatDoorHABC
namespace Go.Proofs.YtfnnhimopokpnaaGreatDoor
open Go.RowKit
set_option maxRecDepth 100000
set_option maxHeartbeats 0
set_option linter.unusedVariables false
theorem apart_zero (a b:Au) (x y:Nat):apartP a b (x,y)=0↔endsU a x=endsU b y:=by
 unfold apartP
 constructor
 ·intro h
  refine Nat.eq_of_testBit_eq fun i=>?_
  have h2:(endsU a x ^^^ endsU b y).testBit i=false:=by rw [h];simp
  rw [Nat.testBit_xor] at h2
  revert h2
  cases (endsU a x).testBit i<;>cases (endsU b y).testBit i<;>simp
 ·intro h
  simp only
  rw [h,Nat.xor_self]
theorem inB_pow {x K:Nat} (h:x<K):inB (x:Int) 0 ((K:Int)-1)=true:=by
 unfold inB
 rw [Bool.and_eq_true,decide_eq_true_eq,decide_eq_true_eq]
 omega
theorem spec_PairsOk (lo hi lo' hi' lp:Nat) (ve vf vp:Value) (e f:List Int) (ps:List (Nat × Nat)) (w:World) (hx:SlI lo hi w ve e) (hy:SlI lo' hi' w vf f) (hz:NewP lp w vp ps) (hh:hi≤w.heap.size) (hh':hi'≤w.heap.size) (hm:e.length≤1048576) (hm':f.length≤1048576) (h100:ps.length≤100) (hr:∀ p∈ps,p.1<2 ^ (autV e).ends.length∧p.2<2 ^ (autV f).ends.length) :
  Calls Tryz.prog 105 #[ve,vf,vp] w fun r w'=>r=.returned (.bool (okX e f ps))∧Below w.heap.size w w':=by
 have HX:=H_ hx
 have HY:=H_ hy
 have HZ:=H_ hz
 have HR:=H_ hr
 have HAO:=H_ (autV_ok e)
 have HBO:=H_ (autV_ok f)
 have HB0:=H_ (B_ w.heap.size w)
 obtain ⟨pg,pc,rfl⟩:=hz.shape
 clear hx hy hz hr
 go_enter Tryz.func105,Tryz.ntmps105
 go_wp2_with fail
 refine (spec_AutoOf _ _ _ e w (HX.out.below HB0.out hh) (by have:=HB0.out.size;omega) hm).mono ?_
 rintro e1 w1 ⟨v1,rfl,⟨va,vb,ss,rfl,ha1,ha2⟩,hb1⟩
 have hz1_:=HB0.out.size
 have hz1:=hb1.size
 obtain ⟨a1,c1,rfl⟩:=Own.shape ha1
 obtain ⟨a2,c2_,rfl⟩:=Own.shape ha2.1
 obtain ⟨w2,hww2⟩:∃ x_,x_=w1.alloc (.cells #[.slice a1 (autV e).ends.length c1,.slice a2 ss.length c2_] 123):=⟨_,rfl⟩
 obtain ⟨hb2,K2,hsw2⟩:=box_facts2 hww2
 have HBw2:=H_ ((HB0.out.trans (hb1.mono (by omega))).trans (hb2.mono (by omega)))
 have HAw2:=H_ (show AuS w.heap.size w2.heap.size w2 (.agg #[.slice a1 (autV e).ends.length c1,.slice a2 ss.length c2_]) (autV e)∧Blk w1.heap.size (.cells #[.slice a1 (autV e).ends.length c1,.slice a2 ss.length c2_] 123) w2 from ⟨AuS.wide (AuS.below ⟨_,_,rfl,ha1.sl,ha2.sl⟩ hb2 (le_ _)) (by omega) (by omega),K2⟩)
 clear hb1 hb2 K2 ha1 ha2
 go_wp2_with fail
 simp only [←hww2]
 clear hww2
 refine (spec_AutoOf _ _ _ f w2 (HY.out.below HBw2.out hh') (by have:=HBw2.out.size;omega) hm').mono ?_
 rintro e3 w3 ⟨v3,rfl,⟨vc,vd,tt,rfl,ha1,ha2⟩,hb1⟩
 have hz3:=hb1.size
 obtain ⟨a3,c3,rfl⟩:=Own.shape ha1
 obtain ⟨a4,c4,rfl⟩:=Own.shape ha2.1
 obtain ⟨w4,hww4⟩:∃ x_,x_=w3.alloc (.cells #[.slice a3 (autV f).ends.length c3,.slice a4 tt.length c4] 123):=⟨_,rfl⟩
 obtain ⟨hb2,K2,hsw4⟩:=box_facts2 hww4
 have HBw4:=H_ ((HBw2.out.trans (hb1.mono (by omega))).trans (hb2.mono (by omega)))
 obtain ⟨n1,hn1⟩:∃ n_,n_=(autV e).ends.length:=⟨_,rfl⟩
 obtain ⟨n2,hn2⟩:∃ n_,n_=(autV f).ends.length:=⟨_,rfl⟩
 have HN1:=H_ hn1
 have HN2:=H_ hn2
 have HAB:Hid (AuB w w4 w1.heap.size w3.heap.size (.slice a1 n1 c1) (.slice a2 ss.length c2_) (.slice a3 n2 c3) (.slice a4 tt.length c4) (autV e) (autV f)):=by
  rw [hn1,hn2]
  exact H_ ⟨(HAw2.out.2.below hb1 (by omega)).below hb2 (by omega),K2,((HAw2.out.1.below hb1 (by omega)).below hb2 (by omega)).wide (le_ _) (by omega),AuS.wide (AuS.below ⟨_,_,rfl,ha1.sl,ha2.sl⟩ hb2 (le_ _)) (by omega) (by omega)⟩
 clear hb1 hb2 K2 ha1 ha2 HAw2 hn1 hn2
 go_upto_region 3 with fail
 simp only [←hww4]
 clear hww4
 have ca:=HAB.out.one.cell 0
 have cb:=HAB.out.two.cell 0
 have hga:=HAB.out.one.lt
 have hgb:=HAB.out.two.lt
 have hw04:=HBw4.out.size
 have HZ4:=H_ (HZ.out.go (HBw4.out.mono (le_ _)))
 by_cases h0:n1=0∨n2=0
 ·have HE:=H_ (okX_shut (e:=e) (f:=f) (ps:=ps) (h0.imp (fun h=>List.eq_nil_of_length_eq_zero (HN1.out.symm.trans h)) (fun h=>List.eq_nil_of_length_eq_zero (HN2.out.symm.trans h))))
  cases g1:decide ((n1:Int)=0)<;>cases g2:decide ((n2:Int)=0)
  ·exfalso
   have:=of_decide_eq_false g1
   have:=of_decide_eq_false g2
   omega
  all_goals (
   have g3:((n1:Int)==0)=decide ((n1:Int)=0):=rfl
   have g4:((n2:Int)==0)=decide ((n2:Int)=0):=rfl
   rw [g1] at g3
   rw [g2] at g4
   go_wp2
   go_ret
   exact ⟨ret_bool HE.out,HBw4.out⟩)
 ·have g1:((n1:Int)==0)=false:=by simp;omega
  have g2:((n2:Int)==0)=false:=by simp;omega
  have HOP:=H_ (show (autV e).ends≠[]∧(autV f).ends≠[] from ⟨fun h=>h0 (.inl (by rw [HN1.out,h];rfl)),fun h=>h0 (.inr (by rw [HN2.out,h];rfl))⟩)
  have hd100:decide ((100:Int)<(ps.length:Int))=false:=by simp;omega
  have hn1:n1≤10:=by rw [HN1.out];exact HAO.out.le
  have hn2:n2≤10:=by rw [HN2.out];exact HBO.out.le
  clear h0
  obtain ⟨B,hB⟩:∃ B,B=decide ((1,1)∈ps):=⟨_,rfl⟩
  have HC:=H_ (l6Has_any _ _ _ ps 1 1 w4 HZ4.out.sl (le_ _) (by omega))
  rw [←hB] at HC
  obtain ⟨N,hN⟩:∃ N,N=!B:=⟨_,rfl⟩
  have HNE:=H_ hN
  have HBE:=H_ (show N=!decide ((1,1)∈ps) by rw [hN,hB])
  clear hB hN
  go_cut [35] (fun v wx=>v=.bool N∧Hid (Below w4.heap.size w4 wx))
  case first=>
   go_wp2_with fail
   refine HC.out.mono ?_
   rintro e5 w5 ⟨rfl,hb5⟩
   have HB5:=H_ hb5
   clear hb5
   go_wp2_with fail
   go_meet
   exact ⟨by rw [HNE.out],HB5⟩
  obtain ⟨rfl,HB5⟩:=hcut
  obtain ⟨w5,rfl⟩:∃ x_,x_=wc:=⟨_,rfl⟩
  have hz5:=HB5.out.size
  clear ca cb HC HNE
  by_cases h11:(1,1)∈ps
  ·have HNO:=H_ h11
   obtain rfl:N=false:=by rw [HBE.out];simp [h11]
   clear h11 HBE
   go_wp2
   go_loopw [9] (fun i wr=>∃ k:Nat,k≤ps.length∧i=.int .i64 k∧Hid (Below w4.heap.size w4 wr)∧Hid (∀ j (h:j<ps.length),j<k→apartP (autV e) (autV f) ps[j]=0∧∀ m,m<12→nextP (autV e) (autV f) ps[j] m∈ps)) (fun i _=>ps.length-(intOf i).toNat)
   case atStart=>exact ⟨0,by omega,rfl,HB5,H_ (fun j _ h=>by omega)⟩
   case round=>
    rename World=>wr
    obtain ⟨k,hk,rfl,HBR,HG⟩:=hrel
    have hwr:=HBR.out.size
    by_cases hlt:k<ps.length
    ·obtain ⟨x,y,hxy⟩:∃ x y,ps[k]=(x,y):=⟨_,_,rfl⟩
     have HXY:=H_ hxy
     have HRK:=H_ (show x<2 ^ n1∧y<2 ^ n2 from by
      have:=HR.out _ (List.getElem_mem hlt)
      rw [hxy,←HN1.out,←HN2.out] at this
      exact this)
     obtain ⟨g2_,c2,hg,hg2,hcc,hx0,hy0⟩:=(HZ4.out.go HBR.out).at k hlt x y hxy
     obtain ⟨g2,hg2e⟩:∃ g,g=g2_:=⟨_,rfl⟩
     rw [←hg2e] at hg2 hcc hx0 hy0
     have HABX:=H_ (HAB.out.go HBR.out)
     have hgs:∀ w',Below wr.heap.size wr w'→w'.cell? ⟨w1.heap.size,0,none⟩=some (.slice a1 n1 c1)∧w'.cell? ⟨w1.heap.size,1,none⟩=some (.slice a2 ss.length c2_)∧w'.cell? ⟨w3.heap.size,0,none⟩=some (.slice a3 n2 c3)∧w'.cell? ⟨w3.heap.size,1,none⟩=some (.slice a4 tt.length c4)∧w'.cell? ⟨g2,0,none⟩=some (.int .i64 (x:Nat))∧w'.cell? ⟨g2,1,none⟩=some (.int .i64 (y:Nat)):=fun w' hb=>⟨(HABX.out.go hb).one.cell 0,(HABX.out.go hb).one.cell 1,(HABX.out.go hb).two.cell 0,(HABX.out.go hb).two.cell 1,(hb.cell (p:=⟨g2,0,none⟩) hg2).trans hx0,(hb.cell (p:=⟨g2,1,none⟩) hg2).trans hy0⟩
     have hx20:x<1048576:=Nat.lt_of_lt_of_le HRK.out.1 (Nat.le_trans (Nat.pow_le_pow_right (by omega) hn1) (by omega))
     have hy20:y<1048576:=Nat.lt_of_lt_of_le HRK.out.2 (Nat.le_trans (Nat.pow_le_pow_right (by omega) hn2) (by omega))
     have hbA:Below wr.heap.size wr wr.drew:=Below.drew (B_ _ _)
     have hS:=hgs wr (B_ _ _)
     have hSA:=hgs _ hbA
     have HGS:=H_ hgs
     have hdz:wr.drew.heap.size=wr.heap.size:=rfl
     obtain ⟨K1,hK1⟩:∃ K,K=2 ^ n1:=⟨_,rfl⟩
     obtain ⟨K2,hK2⟩:∃ K,K=2 ^ n2:=⟨_,rfl⟩
     have pe1:(2:Int) ^ n1=(K1:Int):=by rw [hK1];push_cast;rfl
     have pe2:(2:Int) ^ n2=(K2:Int):=by rw [hK2];push_cast;rfl
     have hKb1:K1≤1024:=by rw [hK1];exact Nat.le_trans (Nat.pow_le_pow_right (by omega) hn1) (by decide)
     have hKb2:K2≤1024:=by rw [hK2];exact Nat.le_trans (Nat.pow_le_pow_right (by omega) hn2) (by decide)
     have HI1:=H_ (show inB (x:Int) 0 ((K1:Int)-1)=true from inB_pow (by rw [hK1];exact HRK.out.1))
     have HI2:=H_ (show inB (y:Int) 0 ((K2:Int)-1)=true from inB_pow (by rw [hK2];exact HRK.out.2))
     have pw1:IntKind.i64.wrap (2 ^ n1)=(K1:Int):=by rw [pe1,IntKind.wrap_i64];omega
     have pw2:IntKind.i64.wrap (2 ^ n2)=(K2:Int):=by rw [pe2,IntKind.wrap_i64];omega
     have pv1:IntKind.i64.wrap ((K1:Int)-1)=(K1:Int)-1:=by rw [IntKind.wrap_i64];omega
     have pv2:IntKind.i64.wrap ((K2:Int)-1)=(K2:Int)-1:=by rw [IntKind.wrap_i64];omega
     clear hK1 hK2 pe1 pe2
     have hne2:((2:Int) !=2)=false:=by decide
     clear hgs hx0 hy0 hxy hg2e
     have HEX:=H_ (apart_zero (autV e) (autV f) x y)
     have HE1:=H_ (l5Ends_any _ _ _ (autV e) x wr.drew (HABX.out.fst.below hbA (le_ _)) (by omega) HAO.out hx20)
     have HE2:=H_ (fun w7 (hb:Below wr.heap.size wr w7)=>l5Ends_any _ _ _ (autV f) y w7 (HABX.out.snd.below hb (le_ _)) (by have:=hb.size;omega) HBO.out hy20)
     obtain ⟨P,hP⟩:∃ P,P=endsU (autV e) x:=⟨_,rfl⟩
     obtain ⟨Q,hQ⟩:∃ Q,Q=endsU (autV f) y:=⟨_,rfl⟩
     rw [←hP,←hQ] at HEX
     rw [←hP] at HE1
     rw [←hQ] at HE2
     clear hP hQ
     obtain ⟨N2,hN2⟩:∃ N,N=((P:Int) !=(Q:Int)):=⟨_,rfl⟩
     have HN2:=H_ hN2
     clear hN2
     go_upto_region 9 with fail
     go_cut [85] (fun v wx=>v=.bool N2∧Hid (Below wr.heap.size wr wx))
     case first=>
      go_region_held3 (fun w'=>w'.cell? ⟨w1.heap.size,0,none⟩=some (.slice a1 n1 c1)∧w'.cell? ⟨w1.heap.size,1,none⟩=some (.slice a2 ss.length c2_)∧w'.cell? ⟨w3.heap.size,0,none⟩=some (.slice a3 n2 c3)∧w'.cell? ⟨w3.heap.size,1,none⟩=some (.slice a4 tt.length c4)∧w'.cell? ⟨g2,0,none⟩=some (.int .i64 (x:Nat))∧w'.cell? ⟨g2,1,none⟩=some (.int .i64 (y:Nat))) (first | with_reducible assumption | go_keep) (first
       | (go_at_call_of 101 (Value.int .i64 ((x:Nat):Int));refine (l1In_any _ _ _ _).mono ?_;rintro e_ _ ⟨rfl,rfl⟩;(try rw [HI1.out]))
       | (go_at_call_of 101 (Value.int .i64 ((y:Nat):Int));refine (l1In_any _ _ _ _).mono ?_;rintro e_ _ ⟨rfl,rfl⟩;(try rw [HI2.out]))
       | (go_at_call_of 112 (Value.agg #[.slice a1 n1 c1,.slice a2 ss.length c2_]);refine HE1.out.mono ?_;rintro e7 w7 ⟨rfl,hb_⟩;(have hz7:=hb_.size);(have hb7:=hbA.trans (hb_.mono (by omega)));(have hS7:=HGS.out _ hb7);(have HB7:=H_ hb7);clear hb_ hb7)
       | (go_at_call_of 112 (Value.agg #[.slice a3 n2 c3,.slice a4 tt.length c4]);refine (HE2.out w7 HB7.out).mono ?_;rintro e8 w8 ⟨rfl,hb_⟩;(have hz8:=hb_.size);(have hb8:=HB7.out.trans (hb_.mono (by omega)));(have hS8:=HGS.out _ hb8);(have HB8:=H_ hb8);clear hb_ hb8))
      go_wp2_with fail
      go_meet
      exact ⟨by rw [HN2.out],HB8⟩
     obtain ⟨rfl,HB8⟩:=hcut
     obtain ⟨w8,rfl⟩:∃ x_,x_=wc:=⟨_,rfl⟩
     have HIN:=H_ (show (x,y)∈ps from by rw [←HXY.out];exact List.getElem_mem hlt)
     have HB48:=H_ (HBR.out.trans (HB8.out.mono hwr))
     have hz48:=HB48.out.size
     clear hS hSA hbA hdz pw1 pw2 pv1 pv2 HI1 HI2 hne2 HE1 HE2
     by_cases heq:P=Q
     ·obtain rfl:N2=false:=by rw [HN2.out];simp [heq]
      have HA0:=H_ (HEX.out.2 heq)
      clear heq HEX HN2
      go_wp2
      go_loopw [11] (fun i wx=>∃ m:Nat,m≤12∧i=.int .i64 m∧Hid (Below wr.heap.size wr wx)∧Hid (∀ j,j<m→nextP (autV e) (autV f) (x,y) j∈ps)) (fun i _=>12-(intOf i).toNat)
      case atStart=>exact ⟨0,by omega,rfl,HB8,H_ (fun j h=>by omega)⟩
      case round=>
       rename World=>wx
       obtain ⟨m,hm12,rfl,HX2,HM⟩:=hrel
       have hzx:=HX2.out.size
       by_cases hltm:m<12
       ·have hgs2:∀ w',Below wx.heap.size wx w'→w'.cell? ⟨w1.heap.size,0,none⟩=some (.slice a1 n1 c1)∧w'.cell? ⟨w1.heap.size,1,none⟩=some (.slice a2 ss.length c2_)∧w'.cell? ⟨w3.heap.size,0,none⟩=some (.slice a3 n2 c3)∧w'.cell? ⟨w3.heap.size,1,none⟩=some (.slice a4 tt.length c4)∧w'.cell? ⟨g2,0,none⟩=some (.int .i64 (x:Nat))∧w'.cell? ⟨g2,1,none⟩=some (.int .i64 (y:Nat)):=fun w' hb=>HGS.out w' (HX2.out.trans (hb.mono hzx))
        have hbC:Below wx.heap.size wx wx.drew:=Below.drew (B_ _ _)
        have hT:=hgs2 wx (B_ _ _)
        have hTC:=hgs2 _ hbC
        have HGT:=H_ hgs2
        have hdx:wx.drew.heap.size=wx.heap.size:=rfl
        have HNP:Hid (nextP (autV e) (autV f) (x,y) m=(stepU (autV e) x m,stepU (autV f) y m)):=H_ rfl
        have HC1:=H_ (l5Step_any _ _ _ (autV e) x m wx.drew (HABX.out.fst.below (HX2.out.trans (hbC.mono hzx)) (le_ _)) (by omega) HAO.out (by omega) hltm)
        have HC2:=H_ (fun w7 (hb:Below wx.heap.size wx w7)=>l5Step_any _ _ _ (autV f) y m w7 (HABX.out.snd.below (HX2.out.trans (hb.mono hzx)) (le_ _)) (by have:=hb.size;omega) HBO.out (by omega) hltm)
        obtain ⟨X,hX⟩:∃ X,X=stepU (autV e) x m:=⟨_,rfl⟩
        obtain ⟨Y,hY⟩:∃ Y,Y=stepU (autV f) y m:=⟨_,rfl⟩
        rw [←hX,←hY] at HNP
        rw [←hX] at HC1
        rw [←hY] at HC2
        clear hgs2 hX hY
        go_upto_region 14 with fail
        go_region_held3 (fun w'=>w'.cell? ⟨w1.heap.size,0,none⟩=some (.slice a1 n1 c1)∧w'.cell? ⟨w1.heap.size,1,none⟩=some (.slice a2 ss.length c2_)∧w'.cell? ⟨w3.heap.size,0,none⟩=some (.slice a3 n2 c3)∧w'.cell? ⟨w3.heap.size,1,none⟩=some (.slice a4 tt.length c4)∧w'.cell? ⟨g2,0,none⟩=some (.int .i64 (x:Nat))∧w'.cell? ⟨g2,1,none⟩=some (.int .i64 (y:Nat))) (first | with_reducible assumption | go_keep) (first
         | (go_at_call_of 114 (Value.agg #[.slice a1 n1 c1,.slice a2 ss.length c2_]);refine HC1.out.mono ?_;rintro e9 w9 ⟨rfl,hb_⟩;(have hz9:=hb_.size);(have hb9:=hbC.trans (hb_.mono (by omega)));(have hT9:=HGT.out _ hb9);(have HB9:=H_ hb9);clear hb_ hb9)
         | (go_at_call_of 114 (Value.agg #[.slice a3 n2 c3,.slice a4 tt.length c4]);refine (HC2.out w9 HB9.out).mono ?_;rintro e10 w10 ⟨rfl,hb_⟩;(have hz10:=hb_.size);(have hb10:=HB9.out.trans (hb_.mono (by omega)));(have hT10:=HGT.out _ hb10);(have HB10:=H_ hb10);clear hb_ hb10)
         | (go_at_call 115;refine (l6Has_any _ _ _ ps X Y w10 (HZ4.out.go (HBR.out.trans ((HX2.out.trans (HB10.out.mono hzx)).mono hwr))).sl (le_ _) (by omega)).mono ?_;rintro e11 w11 ⟨rfl,hb_⟩;(have hz11:=hb_.size);(have hb11:=HB10.out.trans (hb_.mono (by omega)));(have hT11:=HGT.out _ hb11);(have HB11:=H_ hb11);clear hb_ hb11))
        have HX11:=H_ (HX2.out.trans (HB11.out.mono hzx))
        clear hT hTC hT9 hT10 hT11 HB9 HB10 HB11 hbC hdx HGT
        by_cases hmem:(X,Y)∈ps
        ·have hdm2:decide ((X,Y)∈ps)=true:=by simp [hmem]
         have HN:=H_ (show ∀ j,j<m+1→nextP (autV e) (autV f) (x,y) j∈ps from fun j h=>by
          rcases Nat.lt_or_ge j m with h1|h1
          ·exact HM.out j h1
          ·obtain rfl:j=m:=by omega
           rw [HNP.out]
           exact hmem)
         rw [hdm2]
         clear hdm2 hmem HNP HC1 HC2 HM
         go_wp2
         go_roundw
         case rel=>exact ⟨m+1,by omega,by go_num,HX11,HN⟩
         case measure=>simp [intOf];omega
        ·have hdm2:decide ((X,Y)∈ps)=false:=by simp [hmem]
         have HN:=H_ (okX_next (e:=e) (f:=f) HIN.out hltm (show nextP (autV e) (autV f) (x,y) m ∉ ps by rw [HNP.out];exact hmem))
         rw [hdm2]
         clear hdm2 hmem
         go_wp2
         go_ret
         exact ⟨ret_bool HN.out,HBw4.out.trans ((HBR.out.trans (HX11.out.mono hwr)).mono hw04)⟩
       ·obtain rfl:m=12:=by omega
        have HGK:=H_ (show ∀ j (h:j<ps.length),j<k+1→apartP (autV e) (autV f) ps[j]=0∧∀ m,m<12→nextP (autV e) (autV f) ps[j] m∈ps from fun j h hjk=>by
         by_cases hj:j=k
         ·subst hj
          rw [HXY.out]
          exact ⟨HA0.out,HM.out⟩
         ·exact HG.out j h (by omega))
        go_wp2
        go_roundw
        case rel=>exact ⟨k+1,by omega,by go_num,H_ (HBR.out.trans (HX2.out.mono hwr)),HGK⟩
        case measure=>simp [intOf];omega
     ·obtain rfl:N2=true:=by rw [HN2.out];simp;omega
      have HN:=H_ (okX_apart (e:=e) (f:=f) HIN.out (fun h=>heq (HEX.out.1 h)))
      clear heq HEX
      go_wp2
      go_ret
      exact ⟨ret_bool HN.out,HBw4.out.trans (HB48.out.mono hw04)⟩
    ·obtain rfl:k=ps.length:=by omega
     have HN:=H_ (okX_yes (e:=e) (f:=f) HOP.out h100 HNO.out (fun r hr=>by
      obtain ⟨p,hp,rfl⟩:=List.mem_map.1 hr
      exact ⟨p.1,p.2,rfl,(HR.out p hp).1,(HR.out p hp).2⟩) (fun p hp=>by
      obtain ⟨j,hj,rfl⟩:=List.getElem_of_mem hp
      exact HG.out j hj hj))
     go_wp2
     go_ret
     exact ⟨ret_bool HN.out,HBw4.out.trans (HBR.out.mono hw04)⟩
  ·have HN:=H_ (okX_no (e:=e) (f:=f) (ps:=ps) (fun h=>h11 (okP_open h).2.1))
   obtain rfl:N=true:=by rw [HBE.out];simp [h11]
   clear h11 HBE
   go_wp2
   go_ret
   exact ⟨ret_bool HN.out,HBw4.out.trans (HB5.out.mono hw04)⟩
end Go.Proofs.YtfnnhimopokpnaaGreatDoor
