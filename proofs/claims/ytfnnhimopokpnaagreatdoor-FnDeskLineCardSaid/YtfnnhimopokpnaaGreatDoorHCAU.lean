/- Lemmas for this seat; no condition. -/
import Derived.Test.YtfnnhimopokpnaaGreatDoorHCAT
namespace Go.Proofs.YtfnnhimopokpnaaGreatDoor
open Go.RowKit Proofs.Tryz
set_option maxRecDepth 100000
set_option maxHeartbeats 0
set_option linter.all false
variable {e f t best:List Int} {x k lo n m B:Nat} {w w' w4 wr wx ws w9 wA:World} {v vs vt vn v9 s:Value}
theorem z1g(e:List Int)(h:(zcw e).length<=10):autV e=⟨(zcw e).map endL,(zcw e).map (nextL (zcw e))⟩:=by
 unfold autV;unfold zcw at h ⊢;cases hk:μ e
 ·simp
 ·rw[hk,x_ rfl]at h
  rw[x_ (by simp[h])];simp
theorem zzi(e:List Int)(h:¬(zcw e).length<=10):autV e=⟨[],[]⟩:=by
 unfold autV;unfold zcw at h;cases hk:μ e
 ·simp
 ·rw[hk,x_ rfl]at h
  rw[m_ (by simp[h])]
theorem z07:∀ x∈zcw e,∃ t:KT,t=Ο x/\t.post=x/\t.ok 0=true/\t.size<=1640:=by
 intro x hx;unfold zcw at hx
 split at hx
 ·rename_i hv
  obtain⟨t0,h1,h2,_,h4⟩:=zd6 hv;have hA:=allV_all h1 h4;rw[h2]at hA;obtain⟨q,c1,c2⟩:=hA.cl.mem _ hx;have hq:=(Cl.kept h1).ok c1;refine⟨q,?_,c2,hq,Cl.size c1 h4⟩;rw[<-c2,zcy hq]
 ·cases hx
theorem zg3(lo hi:Nat)(v:Value)(e:List Int)(w:World)(hx:SlI lo hi w v e)(hh:hi<=w)(hm:e.length<=1048576):
  Calls prog 111 #[v] w (ε λv' w'=>AuW w w' w' v' (autV e)/\Below w w w'):=by
 have⟨w0,hw0⟩:=xa_ w #[(),()] 123;have HB:Q_ (Below w w w0):=by rw[hw0];exact H_ ((B_ _ _).alloc (le_ _) _)
 have K1:Q_ (Blk w (.cells #[(),()] 123) w0):=by rw[hw0];exact H_ (κ w _)
 have hsz:w0=w.heap.size+1:=by rw[hw0];simp
 have⟨hz1,hz2⟩:w+1<=w0.heap.size/\w0<=w.heap.size+1:=by omega
 have HX:=H_ (hx.below HB.o hh);obtain⟨a,cap,rfl,hcap,hcm⟩:=ο hx;clear hx hsz
 go_enter func111,ntmps111
 go_wp2_with fail
 simp only[<-hw0];clear hw0;refine(z06 _ _ _ e w0 HX.o hm (by omega)).mono ?_;rintro e2 w2 ⟨v2,rfl,hl2,hb2⟩;have hz2':=hb2.size;obtain⟨lg,lc,sl,rfl,hl⟩:=hl2;have HSL:=H_ hl.2.1;have HL:=H_ hl;have HB2:=HB.tr hb2 (by omega);have K2:=H_ (K1.o.below hb2 (by omega));have HA1:=H_ (z1g e);have HA2:=H_ (zzi e);have HTR:=H_ (λk (hk:k<(zcw e).length)=>z07 _ (u_ hk));have⟨L,hL⟩:=ex_ (zcw e);rw[<-hL]at HL HSL HA1 HA2 HTR
 have HLX:=H_ (show ∀ wz,Below w2 w2 wz->∀ j (h1:j<sl.length) (h2:j<L.length),∃ pa pc,lg<wz.heap.size/\wz.cell? (p_ lg j)=some (.slice pa L[j].length pc)/\SlI w0 w2 wz (.slice pa L[j].length pc) L[j] from λwz hb j h1 h2=>by
  obtain⟨g,e,_,_,hg,hc,hu⟩:=(HL.o.below hb (le_ _)).at j h1 h2;injection e with e;injection e with e;subst e;obtain⟨pa,pc,hs⟩:=θ hu;rw[hs]at hc hu;exact⟨pa,pc,hg,hc,hu.sl⟩)
 have⟨w3,hw3⟩:=xa_ w2 #[(),()] 123;have hz3:w3=w2.heap.size+1:=by rw[hw3];simp
 have HB3:Q_ (Below w2 w2 w3):=by rw[hw3];exact H_ (η _ _)
 have⟨hz3a,hz3b⟩:w2+1<=w3.heap.size/\w3<=w2.heap.size+1:=by omega
 have HI:Q_ (AUI w2 w3 w3 L 0 () () []):=by
  refine H_ ⟨?_,zaa _ _ _ _ _,zf0 _ _ _,λu hu=>by simp at hu,β.refl _ _ _⟩;rw[hw3];exact κ w2 _
 clear hl hb2 hL hz3;by_cases h10:sl.length<=10
 ·have hd10:decide ((sl.length:Int)<=10)=true:=by simp;omega
  go_wp2_with fail
  simp only[<-hw3];clear hw3;go_loopw [5] (λi wr=>∃ (k:Nat) (va vb:Value) (ss:List Value),k<=sl.length/\i=.int .i64 k/\Q_ (AUI w2 w3 wr L k va vb ss)) (λi _=>sl.length-(intOf i).toNat)
  case atStart=>exact⟨0,_,_,_,by omega,rfl,HI⟩
  case round=>
   rename World=>wk
   clear HI;obtain⟨k,va,vb,ss,hk,rfl,HI⟩:=hrel;have hzk:=HI.o.o.size;have HBk:=H_ (δ HB3.o HI.o.o (le_ _) (by omega));by_cases hlt:k<sl.length
   ·(have hkL:k<L.length:=by rw[<-HSL.o];exact hlt);(obtain⟨pa6,pc6,hg6,hc6,hu6⟩:=HLX.o wk HBk.o k hlt hkL;have HU6:=H_ hu6;clear hu6;obtain⟨t,ht,hpo,hok,hts⟩:=HTR.o k hkL;have HT:=H_ ht;have HPO:=H_ hpo;have HOK:=H_ hok;clear ht hpo hok)
    have HEN:Q_ (∀ w',Below wk wk w'->Calls prog 110 #[.slice pa6 L[k].length pc6] w' λe w''=>e=.returned (.int .i64 (endL L[k]))/\Below w'.heap.size w' w''):=H_ λw' hb'=>(zl7 t _ _ _ w' (by rw[HPO.o];exact HU6.o.below hb' (by omega)) HOK.o (by omega) (by have:=hb'.size;omega)).mono (by
     rintro e w'' ⟨rfl,h⟩;exact⟨by rw[endL,<-HT.o],h⟩)
    (have c0:=HI.o.blk.cell 0;have c0':=HI.o.blk.drew.cell 0;have⟨hkl,hk41⟩:k<=L.length/\k<=41:=by omega);(have hg3:w2+1<=w3.heap.size:=hz3a;have hzx:wk.drew.heap.size=wk.heap.size:=rfl;have hc6':wk.drew.cell? (p_ lg k)=some (.slice pa6 L[k].length pc6):=hc6;go_upto_region 6 with fail);go_cut [] (λwx=>∃ v9:Value,Q_ (AUE w2 w3 wx L k v9 vb ss L[k]))
    case first=>
     go_region_law (first
      | (go_simp;go_at_call 110;refine(HEN.o wk.drew (z_ (B_ _ _))).mono ?_;rintro e7 w7 ⟨rfl,hb7_⟩;(have hz7:=hb7_.size);(have hb7:Below wk wk w7:=(z_ (B_ _ _)).trans (hb7_.mono (le_ _)));(have HI7:=H_ (HI.o.go hb7));(have c7:=HI7.o.blk.cell 0);(have c7':=(HI7.o.blk.al (x:=.cells #[.int .i64 (endL L[k])] 3)).cell 0);(have L7:Q_ (Sl 1 w7 (w7+1) (w7.alloc (.cells #[.int .i64 (endL L[k])] 3)) (.slice (q_ w7 0) 1 1) 1 [.int .i64 (endL L[k])]):=H_ (ς 1 3 w7 [.int .i64 (endL L[k])] 1 (by omega) rfl).sl);(have HE7:=H_ ((HI7.o.go (η w7 (.cells #[.int .i64 (endL L[k])] 3))).endsK hkl));clear hb7_ hb7)
      | (refine ziq (by rfl) _ _ 22 (by rfl) 3 (0:Int) 1 8 underlying22 τ (by rfl) (by decide) (by decide) (by rfl) HE7.o (by rfl) L7.o (by intro u hu;simp only[k_] at hu;subst hu;rfl) (by omega) (by omega) (by simp only[ν];omega) ?_;intro v9 w9 ho9 hg9 hl9;obtain⟨y9,yc9,rfl⟩:=θ ho9;(have k9:=HI7.o.blk9 hg3 hg9);(have c9:=k9.cell 0);(have f9:=k9.free 0);(have HH:=H_ (AUI.endsE HI7.o hg3 hkl ho9 hg9 hl9));clear ho9 hg9 hl9 k9))
     all_goals (
      go_wp2_with fail
      go_meet
      exact⟨_,HH⟩)
    case rest=>
     (obtain⟨ve,HH⟩:=hcut;obtain⟨wa,rfl⟩:=ex_ wc;have hza:=HH.o.o.size;have HBA:=H_ (δ HB3.o HH.o.o (le_ _) (by omega));clear c0 c0' hc6' hzx HI HEN)
     have HR0:Q_ (γ wa (wa.alloc (.cells #[] 3)).heap.size 3 (wa.alloc (.cells #[] 3)) (.slice (q_ wa 0) 0 0) (zdi L L[k] 0)/\Below wa wa (wa.alloc (.cells #[] 3))):=H_ ⟨by
      rw[ν];exact ς 1 3 wa (ints []) 0 (by omega) rfl,η _ _⟩
     go_wp2;go_loopw [6,7] (λr i wx=>∃ m:Nat,m<=12/\i=.int .i64 m/\Q_ (γ wa wx 3 wx r (zdi L L[k] m)/\Below wa wa wx)) (λ_ i _=>12-(intOf i).toNat)
     case atStart=>exact⟨0,by omega,rfl,HR0⟩
     case round=>
      rename World=>wx
      clear HR0;obtain⟨m,hm12,rfl,HR⟩:=hrel;obtain⟨ra,rc,hrs⟩:=θ HR.o.1;subst hrs;rw[zh4];have hzx:=HR.o.2.size;by_cases hltm:m<12
      ·(have hdm:decide ((m:Int)<12)=true:=by simp;omega);(have HBX:=H_ (HBA.o.trans (HR.o.2.mono (by omega)));have hwx2:=HBX.o.size;obtain⟨pa7,pc7,hg7,hc7,hu7⟩:=HLX.o wx HBX.o k hlt hkL;have HU7:=H_ hu7;have HMQ:=H_ (show (m:Int)/3=((m/3:Nat):Int)/\(16:Int)+(m:Int)%3=16+((m%3:Nat):Int) from ⟨by omega,by omega⟩);have HMP:=H_ (show moveP (Ο L[k]) m=partsV t (m/3) (16+((m%3:Nat):Int)) from by rw[<-HT.o];rfl);have hm3:m/3<4:=by omega);clear hu7;go_wp2_with fail
       rw[HMQ.o.1,HMQ.o.2];refine(zgd t _ _ _ wx (m/3) (16+((m%3:Nat):Int)) (by rw[HPO.o];exact HU7.o) HOK.o (by omega) hm3 (by omega) (by omega) (by omega)).mono ?_;rintro e5 w5 ⟨v5,rfl,h5,hb5⟩;rw[<-HMP.o]at h5;have hz5:=hb5.size;obtain⟨bigP,lnP⟩:=zga HOK.o (by omega) (α:=m/3) (c:=16+((m%3:Nat):Int)) (by omega);rw[<-HMP.o]at bigP lnP;have HBP:=H_ bigP;obtain⟨g5,c5,rfl⟩:=h5.shape;have H5:=H_ h5.sl
       have HR5:=H_ (show γ wa w5 3 w5 (.slice ra m rc) (zdi L L[k] m)/\Below wa wa w5 from ⟨by
        have h:=(HR.o.1.below hb5 (le_ _)).lower (le_ _) hz5;rw[zh4]at h;exact h,HR.o.2.trans (hb5.mono (by omega))⟩)
       (have HS0:=H_ (show ((zei L L[k] m 0:Nat):Int)=0 from rfl);clear bigP h5 hb5 hc7 hg7 HU7 HMQ HMP HR;go_wp2;go_loopw [8,10] (λs i wy=>∃ j:Nat,j<=sl.length/\i=.int .i64 j/\s=.int .i64 ((zei L L[k] m j:Nat):Int)/\Q_ (Below w5 w5 wy)) (λ_ i _=>sl.length-(intOf i).toNat));case atStart=>exact⟨0,by omega,rfl,by rw[HS0.o],H_ (B_ _ _)⟩
       case round=>
        rename World=>wy
        obtain⟨j,hj,rfl,rfl,HY⟩:=hrel;have hzy:=HY.o.size;have HBY:=H_ ((HBA.o.trans (HR5.o.2.mono (by omega))).trans (HY.o.mono (by omega)));by_cases hltj:j<sl.length
        ·(have hjL:j<L.length:=by rw[<-HSL.o];exact hltj);(obtain⟨pa8,pc8,hg8,hc8,hu8⟩:=HLX.o wy HBY.o j hltj hjL;have HU8:=H_ hu8;have hsj:=zsw L L[k] m j;have hp2:(2:Nat) ^ j<=2 ^ 9:=ah_ (by omega) (by omega);have HSI:=H_ (λh:L[j]∈moveP (Ο L[k]) m=>zzd hjL h);have HSO:=H_ (λh:L[j] ∉ moveP (Ο L[k]) m=>zt9 hjL h);have pw:=zo2 (k:=j) (by omega);have⟨S,hS⟩:=ex_ (zei L L[k] m j);obtain⟨K,hK⟩:∃ K:Nat,K=2 ^ j:=⟨_,rfl⟩;have⟨P,hP⟩:=ex_ (moveP (Ο L[k]) m);rw[<-hS,<-hK]at hsj HSI;rw[<-hS]at HSO ⊢;rw[<-hK]at hp2 pw;rw[<-hP]at HSI HSO H5 HBP lnP ⊢;have HLJ:=H_ ((HTR.o j hjL).choose_spec))
         have hlj:L[j].length<=16777216:=by
          have h:=HLJ.o;rw[<-h.2.1,za2];omega
         clear hu8 hS hK hP HLJ;go_wp2_with fail
         refine(zrj _ _ _ _ _ _ P L[j] wy (H5.o.below HY.o (le_ _)) HU8.o hzy (by omega) (by omega) (λy hy=>by have:=HBP.o y hy;omega) hlj).mono ?_;rintro e9 w9 ⟨rfl,hb9⟩;have HY9:=HY.tr hb9 hzy;clear hb9 hc8 hg8;by_cases hmem:L[j]∈P
         ·(have hdm:decide (L[j]∈P)=true:=by simp[hmem]);(have HN:=H_ (HSI.o hmem);rw[hdm];clear hdm hmem;go_wp2;go_roundw);(case rel=>exact⟨j+1,by omega,by go_num,by rw[HN.o];rfl,HY9⟩);case measure=>simp[intOf];omega
         ·(have hdm:decide (L[j]∈P)=false:=by simp[hmem]);(have HN:=H_ (HSO.o hmem);rw[hdm];clear hdm hmem;go_wp2;go_roundw);(case rel=>exact⟨j+1,by omega,by go_num,by rw[HN.o],HY9⟩);case measure=>simp[intOf];omega
        ·(obtain rfl:j=sl.length:=by omega);(have HSF:=H_ (show zei L L[k] m sl.length=setL L L[k] m by rw[HSL.o];rfl);have hsz:=zsw L L[k] m sl.length;have HRY:=H_ (show γ wa wy 3 wy (.slice ra m rc) (zdi L L[k] m)/\Below wa wa wy from ⟨(HR5.o.1.below HY.o (le_ _)).lower (le_ _) hzy,HR5.o.2.trans (HY.o.mono (by omega))⟩);have hzwy:=HRY.o.2.size)
         have hown:Own 1 wa wy 3 wy (.slice ra m rc) m (ints (zdi L L[k] m)):=by
          (have h:Own 1 wa wy 3 wy (.slice ra m rc) (zdi L L[k] m).length (ints (zdi L L[k] m)):=HRY.o.1)
          rwa [zh4]at h
         (have HOW:=H_ hown;clear hown;rw[HSF.o];go_wp2_with (at_builtin;go_loud (refine zbt wy rfl _ _ 22 rfl 3 (0:Int) 1 8 underlying22 τ rfl (by decide) (by decide) rfl HOW.o 1 [.int .i64 ((setL L L[k] m:Nat):Int)] rfl rfl (by intro u hu;simp only[k_] at hu;subst hu;rfl) rfl ?c1 ?c2 ?_)));case c1=>omega
         case c2=>omega
         intro v10 w10 ho10 hg10 hl10 hout10
         have HR10:=H_ (show γ wa w10 3 w10 v10 (zdi L L[k] (m+1))/\Below wa wa w10 from by
          have hz:(wy.alloc (.cells #[.int .i64 ((setL L L[k] m:Nat):Int)] 3)).heap.size=wy.heap.size+1:=ν _ _;refine⟨γ.len (show Own 1 wa w10 3 w10 v10 (m+1) (ints (zdi L L[k] (m+1))) by rw[z09,zae];exact ho10) (by rw[zh4]),?_⟩;have ha:=η wy (.cells #[.int .i64 ((setL L L[k] m:Nat):Int)] 3);exact δ (HRY.o.2.trans (ha.mono hzwy)) (zbz hg10 (HOW.o.alloc (.cells #[.int .i64 ((setL L L[k] m:Nat):Int)] 3)).lt) (le_ _) (by omega))
         (obtain⟨y10,yc10,rfl⟩:=θ ho10;clear ho10 hg10 hl10 hout10;go_wp2;go_roundw);(case rel=>exact⟨m+1,by omega,by go_num,HR10⟩);case measure=>simp[intOf];omega
      ·(obtain rfl:m=12:=by omega)
       have HROW:=H_ (AUE.row HH.o HR.o.2 (show γ wa wx 3 wx (.slice ra 12 rc) (nextL L L[k]) from by
        have h:=HR.o.1;rw[zh4]at h;exact h))
       (have hss:ss.length<=41:=by have:=HH.o.next.2.1;simp at this;omega);(have c1:=HROW.o.blk.cell 1;obtain⟨za,zc,rfl⟩:=θ HROW.o.next.1;have hg3b:w3<=wx.heap.size:=by omega);go_wp2_with (at_builtin;go_loud (refine zbt wx rfl _ _ 119 rfl 22 () 1 24 underlying119 zag rfl (by decide) (by decide) rfl HROW.o.next.1 1 [.slice ra 12 rc] rfl rfl (by intro u hu;simp only[k_] at hu;subst hu;rfl) rfl ?c1 ?c2 ?_))
       case c1=>omega
       case c2=>exact hg3b
       intro v12 w12 ho12 hg12 hl12 _;obtain⟨y12,yc12,rfl⟩:=θ ho12;have k12:=HROW.o.blk9 hg3 hg12;have c12:=k12.cell 1;have f12:=k12.free 1;have HI13:=H_ (AUH.nextPut hkL HROW.o hg3 ho12 hg12);clear ho12 hg12 hl12 k12;go_wp2;go_roundw
       (case rel=>exact⟨k+1,_,_,_,by omega,by go_num,HI13⟩);case measure=>simp[intOf];omega
   ·(obtain rfl:k=sl.length:=by omega);(obtain⟨za,zc,rfl⟩:=θ (HI.o.endsK (by rw[<-HSL.o];exact le_ _));obtain⟨zb,zbc,rfl⟩:=θ HI.o.next.1;have KR:=H_ (K2.o.below HBk.o (by omega));obtain⟨c0,c1⟩:=HI.o.blk.c2;have⟨d0,d1⟩:=KR.o.c2;have⟨f0,f1⟩:=KR.o.f2;go_wp2;have⟨wz,hwz⟩:=x2_ wk w (.slice za sl zc) (.slice zb ss zbc);have KZ:=KR.o.au2 (.slice za sl zc) (.slice zb ss zbc);have HO:=β.set2' w wk (.slice za sl zc) (.slice zb ss zbc);rw[<-hwz]at KZ HO;simp only[<-hwz];obtain⟨q0,q1⟩:=KZ.c2;refine d_ (v:=.agg #[.slice za sl zc,.slice zb ss zbc]) (by simp[results,results111,go_sem,q0,q1]) rfl (ε.mk _ rfl ⟨?_,δ (HB2.o.trans (HBk.o.mono (by omega))) HO (le_ _) (by omega)⟩);have e2:L.take sl.length=L:=by rw[HSL.o,Y_]);have n1:=HI.o.ends;have n2:=HI.o.next;rw[e2]at n1 n2;rw[HA1.o (by rw[<-HSL.o];exact h10)];exact⟨_,_,ss,rfl,(n1.outside HO (.inr (by omega))).lower (by omega) HO.size,(n2.outside HO (.inr (by omega))).lower (by omega) HO.size⟩
 ·have hd10:decide ((sl.length:Int)<=10)=false:=by simp;omega
  have hpos:decide ((0:Int)<(sl.length:Int))=true:=by simp;omega
  go_wp2_with fail
  simp only[<-hw3];clear hw3;have HW:=H_ (B_ w3 w3);go_loopw [5] (λi wr=>i=.int .i64 0/\Q_ (Below w3 w3 wr)) (λi _=>0)
  case atStart=>exact⟨rfl,HW⟩
  case round=>
   rename World=>wk
   obtain⟨rfl,HW'⟩:=hrel;have HBk:=HB3.tr HW'.o (by omega);have hzk:=HBk.o.size;have KR:=H_ (K2.o.below HBk.o (by omega));have KI:=H_ (HI.o.blk.below HW'.o HI.o.blk.lt);have⟨c0,c1⟩:=KI.o.c2;have⟨d0,d1⟩:=KR.o.c2;have⟨f0,f1⟩:=KR.o.f2;go_wp2;have⟨wz,hwz⟩:=x2_ wk w () ();have KZ:=KR.o.au2 () ();have HO:=β.set2' w wk () ();rw[<-hwz]at KZ HO;simp only[<-hwz];obtain⟨q0,q1⟩:=KZ.c2;refine d_ (v:=.agg #[(),()]) (by simp[results,results111,go_sem,q0,q1]) rfl (ε.mk _ rfl ⟨?_,δ (HB2.o.trans (HBk.o.mono (by omega))) HO (le_ _) (by omega)⟩);rw[HA2.o (by rw[<-HSL.o];exact h10)];exact AuW.nils _ _ _
theorem zht(lo hi:Nat)(v:Value)(a:Au)(set m:Nat)(w:World)(h:AuS lo hi w v a)(hh:hi<=w)(ho:zcc a)(hs:set<1048576)(hm:m<12):
  c_ 114 #[v,.int .i64 (set:Nat),.int .i64 (m:Nat)] w ((stepU a set m:Nat):Int):=by
 obtain⟨va,vb,rfl,hE,hN⟩:=h;have⟨w0,hw0⟩:=xa_ w #[va,vb] 123;have HB:Q_ (Below w w w0):=by rw[hw0];exact H_ (η _ _)
 have K1:Blk w (.cells #[va,vb] 123) w0:=by rw[hw0];exact κ w _
 obtain⟨c0,c1⟩:=K1.c2;have HE:=H_ (hE.below HB.o hh);have HN:=H_ (hN.below HB.o hh);obtain⟨ea,ec,rfl,_,_⟩:=ο hE;obtain⟨na,nc,hvb,_,_⟩:=hN.shape;have HO:=H_ ho;have h10:=ho.le;have hln:=ho.len;rw[hln]at hvb;subst hvb;have⟨R,hR⟩:=ex_ (a.next.map λr:List Int=>r.getD m 0);have HRS:=H_ (show stepU a set m=imgT R set a.ends.length by rw[hR];rfl)
 have HRL:Q_ (∀ k,imgT R set k<1024):=H_ λk=>imgT_lt (n:=10) (λs hs=>by
  subst hR;simp only[X_]at hs;obtain⟨h1,h2⟩:=ho.rows _ (u_ hs);simp only[bq_,List.getD];rw[l_ (by omega)];exact(h2 _ (u_ _)).2) set k
 have HRG:Q_ (∀ k (h:k<a.next.length),∃ hm':m<a.next[k].length,∃ x:Nat,a.next[k][m]=(x:Int)/\x<1024/\(R.getD k 0).toNat=x):=H_ λk hk=>by
  obtain⟨h1,h2⟩:=ho.rows _ (u_ hk);have hm':m<a.next[k].length:=by omega
  obtain⟨h3,h4⟩:=h2 _ (u_ hm');refine⟨hm',a.next[k][m].toNat,by omega,h4,?_⟩;subst hR;simp[List.getD,l_ hk,l_ hm']
 have⟨n,hn⟩:=ex_ a.ends.length;have HNL:=H_ (show a.next.length=n by rw[hn,hln]);rw[<-hn]at c0 c1 hw0 HRS h10 ⊢;clear hE hN ho K1 hR hln hn
 go_enter func114,ntmps114
 go_wp2_with fail
 simp only[<-hw0];clear hw0
 go_loop [7,8] (λo i=>∃ k:Nat,k<=n/\i=.int .i64 k/\o=.int .i64 ((imgT R set k:Nat):Int)) (λ_ i=>n-(intOf i).toNat)
 case atStart=>exact⟨0,by omega,rfl,rfl⟩
 case round=>
  obtain⟨k,hk,rfl,rfl⟩:=hrel;by_cases hlt:k<n
  ·have hkn:k<a.next.length:=by rw[HNL.o];exact hlt
   obtain⟨b,off,u,rfl,_,_,_,hcell,hu⟩:=HN.o.get k hkn;obtain⟨hm',x,hx,hx2,hg⟩:=HRG.o k hkn;obtain⟨ua,uc,rfl,_,_⟩:=ο hu;obtain⟨b2,off2,rfl,_,_,_,hcell2⟩:=zc9 hu m hm';rw[hx]at hcell2;have hlr:a.next[k].length=12:=(HO.o.rows _ (u_ hkn)).1;rw[hlr]at hcell;have him:=HRL.o k;go_wp2_with fail
   refine(zgu set k (by omega) (by omega) _).mono ?_;rintro e _ ⟨rfl,rfl⟩;cases hb:set.testBit k
   ·(have hbi:zaw set k=0:=by simp[zaw,hb]);rw[hbi];have HNN:Q_ (imgT R set (k+1)=imgT R set k):=H_ (by rw[imgT,hb];simp);clear hb hx hg hu hlr hbi;go_wp2;go_round
    (case rel=>exact⟨k+1,by omega,by go_num,by rw[HNN.o]⟩);case measure=>simp[intOf];omega
   ·(have hbi:zaw set k=1:=by simp[zaw,hb]);rw[hbi];have HNN:Q_ (imgT R set (k+1)=imgT R set k ||| x):=H_ (by rw[imgT,hb,hg];simp);clear hb hx hg hu hlr hbi;go_wp2_with fail
    refine(zlh (imgT R set k) x (by omega) (by omega) _).mono ?_;rintro e _ ⟨rfl,rfl⟩;go_wp2;go_round
    (case rel=>exact⟨k+1,by omega,by go_num,by rw[HNN.o]⟩);case measure=>simp[intOf];omega
  ·obtain rfl:k=n:=by omega
   go_wp2;go_ret;exact⟨by rw[HRS.o];rfl,HB.o⟩
theorem zki(lo hi:Nat)(v:Value)(a:Au)(set:Nat)(w:World)(h:AuS lo hi w v a)(hh:hi<=w)(ho:zcc a)(hs:set<1048576):
  c_ 112 #[v,.int .i64 (set:Nat)] w ((endsU a set:Nat):Int):=by
 obtain⟨va,vb,rfl,hE,hN⟩:=h;have⟨w0,hw0⟩:=xa_ w #[va,vb] 123;have HB:Q_ (Below w w w0):=by rw[hw0];exact H_ (η _ _)
 have K1:Blk w (.cells #[va,vb] 123) w0:=by rw[hw0];exact κ w _
 have c0:=K1.cell 0;have HE:=H_ (hE.below HB.o hh);obtain⟨ea,ec,rfl,_,_⟩:=ο hE;have h10:=ho.le;have⟨R,hR⟩:=ex_ a.ends;have HRS:=H_ (show endsU a set=imgT R set a.ends.length by rw[hR];rfl);have HRL:Q_ (∀ k,imgT R set k<16):=H_ λk=>imgT_lt (n:=4) (λs hs=>by subst hR;exact(ho.ends _ (u_ hs)).2) set k
 have HRG:Q_ (∀ k (h:k<R.length),∃ x:Nat,R[k]=(x:Int)/\x<16/\(R.getD k 0).toNat=x):=H_ λk hk=>by
  subst hR;obtain⟨h3,h4⟩:=ho.ends _ (u_ hk);exact⟨a.ends[k].toNat,by omega,h4,by simp[List.getD,l_ hk]⟩
 rw[<-hR]at HE c0 hw0 HRS h10 ⊢;clear hE hN ho K1 hR
 go_enter func112,ntmps112
 go_wp2_with fail
 simp only[<-hw0];clear hw0
 go_loop [5,6] (λo i=>∃ k:Nat,k<=R.length/\i=.int .i64 k/\o=.int .i64 ((imgT R set k:Nat):Int)) (λ_ i=>R.length-(intOf i).toNat)
 case atStart=>exact⟨0,by omega,rfl,rfl⟩
 case round=>
  obtain⟨k,hk,rfl,rfl⟩:=hrel;by_cases hlt:k<R.length
  ·obtain⟨x,hx,hx2,hg⟩:=HRG.o k hlt
   obtain⟨b2,off2,rfl,_,_,_,hcell2⟩:=zc9 HE.o k hlt;rw[hx]at hcell2;have him:=HRL.o k;go_wp2_with fail
   refine(zgu set k (by omega) (by omega) _).mono ?_;rintro e _ ⟨rfl,rfl⟩;cases hb:set.testBit k
   ·(have hbi:zaw set k=0:=by simp[zaw,hb]);rw[hbi];have HNN:Q_ (imgT R set (k+1)=imgT R set k):=H_ (by rw[imgT,hb];simp);clear hb hx hg hbi;go_wp2;go_round
    (case rel=>exact⟨k+1,by omega,by go_num,by rw[HNN.o]⟩);case measure=>simp[intOf];omega
   ·(have hbi:zaw set k=1:=by simp[zaw,hb]);rw[hbi];have HNN:Q_ (imgT R set (k+1)=imgT R set k ||| x):=H_ (by rw[imgT,hb,hg];simp);clear hb hx hg hbi;go_wp2_with fail
    refine(zlh (imgT R set k) x (by omega) (by omega) _).mono ?_;rintro e _ ⟨rfl,rfl⟩;go_wp2;go_round
    (case rel=>exact⟨k+1,by omega,by go_num,by rw[HNN.o]⟩);case measure=>simp[intOf];omega
  ·obtain rfl:k=R.length:=by omega
   go_wp2;go_ret;exact⟨by rw[HRS.o];rfl,HB.o⟩
theorem zqh {x:Nat × Nat} {l:List (Nat × Nat)}(hk:k<l.length)(h:x ∉ l.take k)(he:l[k]≠x):x ∉ l.take (k+1):=by
 rw[F_ hk,E_,k_];rintro(h1|h1)
 ·exact h h1
 ·exact he h1.symm
theorem zix(lo hi:Nat)(v:Value)(ps:List (Nat × Nat))(x y:Nat)(w:World)(hl:za5 lo hi w v (prL ps))(hh:hi<=w)(hm:ps.length<=4194304):
  c_ 115 #[v,.int .i64 (x:Nat),.int .i64 (y:Nat)] w (decide ((x,y)∈ps)):=by
 have HL:=H_ hl;obtain⟨a,cap,rfl,_,_⟩:=hl.shape;rw[zfo]at HL ⊢;clear hl
 go_enter func115,ntmps115
 go_wp2;go_loopw [7] (λi wr=>∃ k:Nat,k<=ps.length/\i=.int .i64 k/\Q_ (Below w w wr)/\Q_ ((x,y) ∉ ps.take k)) (λi _=>ps.length-(intOf i).toNat)
 case atStart=>exact⟨0,by omega,rfl,H_ (B_ _ _),H_ (by simp)⟩
 case round=>
  rename World=>wr
  obtain⟨k,hk,rfl,HB,HN⟩:=hrel;have hzr:=HB.o.size;by_cases hlt:k<ps.length
  ·have hkx:k<(prL ps).length:=by rw[zfo];exact hlt
   obtain⟨b5,off5,u5,rfl,_,_,hb5,hc5,hu5⟩:=(HL.o.below HB.o hh).get k hkx;rw[znh hkx hlt]at hu5;obtain⟨ua,uc,rfl,_,_⟩:=ο hu5;obtain⟨b6,off6,rfl,_,_,hb6,hc6⟩:=zc9 hu5 0 (by simp);obtain⟨b7,off7,e7,_,_,hb7,hc7⟩:=zc9 hu5 1 (by simp);injection e7 with e7;injection e7 with e7 e8;subst e7 e8;simp only[bh_,de_,I_,an_,U_,cj_]at hc5 hc6 hc7;obtain⟨p,q,hpq⟩:∃ p q,ps[k]=(p,q):=⟨_,_,rfl⟩;rw[hpq]at hc6 hc7;simp only at hc6 hc7;clear hu5;by_cases h1:p=x
   ·subst h1
    by_cases h2:q=y
    ·subst h2
     have HY:=H_ (show true=decide ((p,q)∈ps) by
      symm
      rw[t_,<-hpq];exact u_ hlt)
     clear hpq;go_wp2;go_ret;exact⟨φ HY.o,HB.o⟩
    ·(have HNN:=H_ (zqh hlt HN.o (λh=>by rw[hpq] at h;injection h with _ h;exact h2 h)));(have g1:((q:Int)==(y:Int))=false:=by simp;omega);(have g2:¬(q:Int)=(y:Int):=by omega);clear hpq h2;go_wp2;go_roundw
     (case rel=>exact⟨k+1,by omega,by go_num,HB,HNN⟩);case measure=>simp[intOf];omega
   ·(have HNN:=H_ (zqh hlt HN.o (λh=>by rw[hpq] at h;injection h with h _;exact h1 h)));(have g1:((p:Int)==(x:Int))=false:=by simp;omega);(have g2:¬(p:Int)=(x:Int):=by omega);clear hpq h1;go_wp2;go_roundw
    (case rel=>exact⟨k+1,by omega,by go_num,HB,HNN⟩);case measure=>simp[intOf];omega
  ·obtain rfl:k=ps.length:=by omega
   have HY:=H_ (show false=decide ((x,y)∈ps) by
    have h:=HN.o;rw[Y_]at h;simp[h])
   go_wp2;go_ret;exact⟨φ HY.o,HB.o⟩
theorem zoh(a b:Au)(o:List (Nat × Nat))(p:Nat × Nat):∀ k,(prow a b o p k).length<=o.length+k
 | 0=>by simp[prow]
 | k+1=>by
  have h:=zoh a b o p k;unfold prow
  split
  ·omega
  ·simp;omega
theorem zsq {a b:Au}(ha:zcc a)(hb:zcc b){o:List (Nat × Nat)}{p:Nat × Nat}(h:∀ q∈o,q.1<1024/\q.2<1024):∀ k,k<=12->∀ q∈prow a b o p k,q.1<1024/\q.2<1024
 | 0,_=>h
 | k+1,hk=>by
  have ih:=zsq ha hb (p:=p) h k (by omega);intro q hq;unfold prow at hq
  split at hq
  ·exact ih q hq
  ·rcases E_.1 hq with hq|hq
   ·exact ih q hq
   ·simp only[k_]at hq
    subst hq;exact⟨ha.step _ (by omega),hb.step _ (by omega)⟩
theorem z26 {a b:Au} {o:List (Nat × Nat)} {p:Nat × Nat} {j:Nat}(hk:k<o.length):∃ h:k<(prow a b o p j).length,(prow a b o p j)[k]=o[k]:=by
 obtain⟨r,hr⟩:=zkf a b o p j;have h2:k<(prow a b o p j).length:=by rw[hr,n_];omega
 exact⟨h2,by rw[c6_ hr,aq_ hk]⟩
theorem z1e(ps:List (Nat × Nat))(x y:Nat):prL (ps++[(x,y)])=prL ps++[[(x:Int),(y:Int)]]:=by simp[prL]
noncomputable def zca(e f:List Int):List (Nat × Nat):=(pairsV e f).getD []
theorem zo3(h:(autV e).ends=[]\/(autV f).ends=[]):zca e f=[]:=by unfold zca pairsV;rw[x_ h];rfl
theorem zy9(h:¬((autV e).ends=[]\/(autV f).ends=[])):zca e f=(pairsA (autV e) (autV f)).getD []:=by unfold zca pairsV;rw[m_ h]
structure AuB(w0 w:World)(ga gb:Nat)(va vb vc vd:Value)(a b:Au):Prop where
 one:Blk ga (.cells #[va,vb] 123) w
 two:Blk gb (.cells #[vc,vd] 123) w
 fst:AuS w0 w w (.agg #[va,vb]) a
 snd:AuS w0 w w (.agg #[vc,vd]) b
theorem AuB.go {w0:World} {ga gb:Nat} {va vb vc vd:Value} {a b:Au}(h:AuB w0 w ga gb va vb vc vd a b)(hb:Below w w w'):AuB w0 w' ga gb va vb vc vd a b:=
 ⟨h.one.below hb h.one.lt,h.two.below hb h.two.lt,(h.fst.below hb (le_ _)).wide (le_ _) hb.size,(h.snd.below hb (le_ _)).wide (le_ _) hb.size⟩
def zci(lo:Nat)(w:World)(v:Value)(ps:List (Nat × Nat)):Prop:=Ε lo w v (prL ps)
theorem zci.shape {ps:List (Nat × Nat)}(h:zci lo w v ps):∃ g cap,v=.slice (q_ g 0) ps cap:=by
 obtain⟨g,cap,e⟩:=Ε.shape h;exact⟨g,cap,by rw[e,zfo]⟩
theorem zci.go {ps:List (Nat × Nat)}(h:zci lo w v ps)(hb:Below w w w'):zci lo w' v ps:=Ε.go h hb
theorem zci.at {cap g:Nat} {ps:List (Nat × Nat)}(h:zci lo w (.slice (q_ g 0) n cap) ps)(k:Nat)(hk:k<ps.length)(x y:Nat)(hxy:ps[k]=(x,y)):
  ∃ g2 c2,g<w/\g2<w.heap.size/\w.cell? (p_ g k)=some (.slice (q_ g2 0) 2 c2)/\w.cell? (p_ g2 0)=some (.int .i64 (x:Nat))/\w.cell? (p_ g2 1)=some (.int .i64 (y:Nat)):=by
 have hkx:k<(prL ps).length:=by rw[zfo];exact hk
 obtain⟨u,hg,hc,hu⟩:=Ε.at h k hkx;rw[znh hkx hk,hxy]at hu;obtain⟨g2,c2,rfl⟩:=zh3 hu (by simp[ints]);obtain⟨b6,off6,e6,_,_,hb6,hc6⟩:=zc9 hu.sl 0 (by simp);obtain⟨b7,off7,e7,_,_,hb7,hc7⟩:=zc9 hu.sl 1 (by simp);injection e6 with e6;injection e6 with e6 f6;injection e7 with e7;injection e7 with e7 f7;subst e6 f6 e7 f7;exact⟨_,c2,hg,hb6,hc,by simpa using hc6,by simpa using hc7⟩
theorem zre(lo hi lo' hi':Nat)(ve vf:Value)(e f:List Int)(w:World)(hx:SlI lo hi w ve e)(hy:SlI lo' hi' w vf f)(hh:hi<=w)(hh':hi'<=w)(hm:e.length<=1048576)(hm':f.length<=1048576):
  Calls prog 106 #[ve,vf] w (ε λv w'=>zci w w' v (zca e f)/\Below w w w'):=by
 have HX:=H_ hx;have HY:=H_ hy;have HAO:=H_ (zbs e);have HBO:=H_ (zbs f);have HB0:=H_ (B_ w w);clear hx hy
 go_enter func106,ntmps106
 go_wp2_with fail
 refine(zg3 _ _ _ e w (HX.o.below HB0.o hh) (by have:=HB0.o.size;omega) hm).mono ?_;rintro e1 w1 ⟨v1,rfl,⟨va,vb,ss,rfl,ha1,ha2⟩,hb1⟩;have hz1_:=HB0.o.size;have hz1:=hb1.size;obtain⟨a1,c1,rfl⟩:=θ ha1;obtain⟨a2,c2_,rfl⟩:=θ ha2.1;have⟨w2,hww2⟩:=xa_ w1 #[.slice a1 (autV e).ends.length c1,.slice a2 ss c2_] 123;obtain⟨hb2,K2,hsw2⟩:=Μ hww2;have HBw2:=H_ ((HB0.o.trans (hb1.mono (by omega))).trans (hb2.mono (by omega)));have HAw2:=H_ (show AuS w w2 w2 (.agg #[.slice a1 (autV e).ends.length c1,.slice a2 ss c2_]) (autV e)/\Blk w1 (.cells #[.slice a1 (autV e).ends.length c1,.slice a2 ss c2_] 123) w2 from ⟨zhm (zho ⟨_,_,rfl,ha1.sl,ha2.sl⟩ hb2 (le_ _)) (by omega) (by omega),K2⟩);clear hb1 hb2 K2 ha1 ha2;go_wp2_with fail
 simp only[<-hww2];clear hww2;refine(zg3 _ _ _ f w2 (HY.o.below HBw2.o hh') (by have:=HBw2.o.size;omega) hm').mono ?_;rintro e3 w3 ⟨v3,rfl,⟨vc,vd,tt,rfl,ha1,ha2⟩,hb1⟩;have hz3:=hb1.size;obtain⟨a3,c3,rfl⟩:=θ ha1;obtain⟨a4,c4,rfl⟩:=θ ha2.1;have⟨w4,hww4⟩:=xa_ w3 #[.slice a3 (autV f).ends.length c3,.slice a4 tt c4] 123;obtain⟨hb2,K2,hsw4⟩:=Μ hww4;have HBw4:=H_ ((HBw2.o.trans (hb1.mono (by omega))).trans (hb2.mono (by omega)));have⟨n1,hn1⟩:=ex_ ((autV e).ends.length);have⟨n2,hn2⟩:=ex_ ((autV f).ends.length);have HN1:=H_ hn1;have HN2:=H_ hn2
 have HAB:Q_ (AuB w w4 w1 w3 (.slice a1 n1 c1) (.slice a2 ss c2_) (.slice a3 n2 c3) (.slice a4 tt c4) (autV e) (autV f)):=by
  rw[hn1,hn2];exact H_ ⟨(HAw2.o.2.below hb1 (by omega)).below hb2 (by omega),K2,((HAw2.o.1.below hb1 (by omega)).below hb2 (by omega)).wide (le_ _) (by omega),zhm (zho ⟨_,_,rfl,ha1.sl,ha2.sl⟩ hb2 (le_ _)) (by omega) (by omega)⟩
 clear hb1 hb2 K2 ha1 ha2 HAw2 hn1 hn2;go_upto_region 3 with fail
 simp only[<-hww4];clear hww4;have ca:=HAB.o.one.cell 0;have cb:=HAB.o.two.cell 0;have hga:=HAB.o.one.lt;have hgb:=HAB.o.two.lt;by_cases h0:n1=0\/n2=0
 ·have HE:=H_ (zo3 (e:=e) (f:=f) (h0.imp (λh=>A_ (HN1.o.symm.trans h)) (λh=>A_ (HN2.o.symm.trans h))))
  cases g1:decide ((n1:Int)=0)<;>cases g2:decide ((n2:Int)=0)
  ·exfalso
   have:=bc_ g1;have:=bc_ g2;omega
  all_goals (
   have g3:((n1:Int)==0)=decide ((n1:Int)=0):=rfl;have g4:((n2:Int)==0)=decide ((n2:Int)=0):=rfl;rw[g1]at g3;rw[g2]at g4;go_wp2;go_ret;exact ε.mk _ rfl ⟨by rw[HE.o];exact zfb _ _ (by have:=HBw4.o.size;omega),HBw4.o.trans ((η _ _).mono HBw4.o.size)⟩)
 ·have g1:((n1:Int)==0)=false:=by simp;omega
  have g2:((n2:Int)==0)=false:=by simp;omega
  have HE:=H_ (zy9 (e:=e) (f:=f) (λh=>h0 (h.imp (λh=>by rw[HN1.o,h];rfl) (λh=>by rw[HN2.o,h];rfl))));clear h0;have⟨w5,hw5⟩:=xa_ w4 #[(1:Int),(1:Int)] 3;have⟨w6,hw6⟩:=xa_ w5 #[.slice (q_ w4 0) 2 2] 22
  have HI:=H_ (show zci w4 w6 (.slice (q_ (w4+1) 0) 1 1) [(1,1)]/\Below w4 w4 w6 from by
   have hs5:w5=w4.heap.size+1:=by rw[hw5];simp
   have hs6:w6=w5.heap.size+1:=by rw[hw6];simp
   have hb5:Below w4 w4 w5:=by rw[hw5];exact η _ _
   have hb6:Below w5 w5 w6:=by rw[hw6];exact η _ _
   refine⟨?_,hb5.trans (hb6.mono (by omega))⟩
   have hr:γ w4 w5 3 w5 (.slice (q_ w4 0) 2 2) [1,1]:=by
    rw[hs5,hw5];exact ς 1 3 w4 (ints [1,1]) 2 (by omega) rfl
   have h:=LLs.one hr (by omega);rw[<-hw6,<-hs6,hs5]at h;exact⟨_,1,[_],rfl,h⟩)
  rw[hw5]at hw6;clear hw5;go_wp2_with fail
  simp only[<-hw6];clear hw6;go_loopw [7,8] (λv i wr=>∃ (k:Nat) (o:List (Nat × Nat)),k<=o.length/\o.length<=100/\i=.int .i64 k/\Q_ (zci w4 wr v o/\Below w4 w4 wr/\PgI (autV e) (autV f) k o/\∀ q∈o,q.1<1024/\q.2<1024)) (λ_ i _=>200-(intOf i).toNat)
  case atStart=>exact⟨0,[(1,1)],by simp,by simp,rfl,H_ ⟨HI.o.1,HI.o.2,rfl,by simp⟩⟩
  case round=>
   rename World=>wr
   clear HI;obtain⟨k,o,hk,h100,rfl,HQ⟩:=hrel;obtain⟨og,oc,hov⟩:=HQ.o.1.shape;subst hov;have h100':k<=100:=by omega
   by_cases hlt:k<o.length
   ·(obtain⟨x,y,hxy⟩:∃ x y,o[k]=(x,y):=⟨_,_,rfl⟩)
    obtain⟨hx10,hy10⟩:x<1024/\y<1024:=by
     have:=HQ.o.2.2.2 _ (u_ hlt);rw[hxy]at this;exact this
    (have HGD:=H_ (show o.getD k (0,0)=(x,y) from by rw[List.getD,l_ hlt];exact hxy))
    have HPW:=H_ (show ∀ m,∃ h:k<(prow (autV e) (autV f) o (x,y) m).length,(prow (autV e) (autV f) o (x,y) m)[k]=(x,y) from λm=>by
     obtain⟨h1,h2⟩:=z26 (a:=autV e) (b:=autV f) (p:=(x,y)) (j:=m) hlt;exact⟨h1,h2.trans hxy⟩)
    (have HPL:=H_ (zoh (autV e) (autV f) o (x,y));have HPS:=H_ (zsq HAO.o HBO.o (o:=o) (p:=(x,y)) HQ.o.2.2.2);have HPG:=H_ HQ.o.2.2.1;have HW0:=H_ (show zci w4 wr (.slice (q_ og 0) o oc) (prow (autV e) (autV f) o (x,y) 0)/\Below w4 w4 wr from ⟨HQ.o.1,HQ.o.2.1⟩);clear hxy HQ;go_wp2;go_loopw [7,9] (λv i wx=>∃ m:Nat,m<=12/\i=.int .i64 m/\Q_ (zci w4 wx v (prow (autV e) (autV f) o (x,y) m)/\Below w4 w4 wx)) (λ_ i _=>12-(intOf i).toNat));case atStart=>exact⟨0,by omega,rfl,HW0⟩
    case round=>
     clear HW0
     rename World=>wx
     (obtain⟨m,hm12,rfl,HA⟩:=hrel;obtain⟨pg,pc,ss4,hpv,hq⟩:=HA.o.1;subst hpv;have HLN:=H_ (hq.2.1.trans (zfo _)))
     have hl112:ss4.length<=112:=by
      rw[HLN.o];have:=HPL.o m;omega
     have HQ:=H_ hq;clear hq;by_cases hltm:m<12
     ·(obtain⟨hkm,hkp⟩:=HPW.o m);(have hks:k<ss4.length:=by rw[HLN.o];exact hkm);(have hwx:=HA.o.2.size;obtain⟨g2,c2,hg,hg2,hcc,hx0,hy0⟩:=HA.o.1.at k hkm x y hkp;have HABX:=H_ (HAB.o.go HA.o.2);have hgs:∀ w',Below wx wx w'->w'.cell? (p_ w1 0)=some (.slice a1 n1 c1)/\w'.cell? (p_ w1 1)=some (.slice a2 ss c2_)/\w'.cell? (p_ w3 0)=some (.slice a3 n2 c3)/\w'.cell? (p_ w3 1)=some (.slice a4 tt c4)/\w'.cell? (p_ pg k)=some (.slice (q_ g2 0) 2 c2)/\w'.cell? (p_ g2 0)=some (.int .i64 (x:Nat))/\w'.cell? (p_ g2 1)=some (.int .i64 (y:Nat)):=λw' hb=>⟨(HABX.o.go hb).one.cell 0,(HABX.o.go hb).one.cell 1,(HABX.o.go hb).two.cell 0,(HABX.o.go hb).two.cell 1,(hb.cell (p:=p_ pg k) hg).trans hcc,(hb.cell (p:=p_ g2 0) hg2).trans hx0,(hb.cell (p:=p_ g2 1) hg2).trans hy0⟩);(have hbA:Below wx wx wx.drew:=z_ (B_ _ _);have hS:=hgs wx (B_ _ _);have hSA:=hgs _ hbA;have HGS:=H_ hgs;have hdz:wx.drew.heap.size=wx.heap.size:=rfl;clear hgs hcc hx0 hy0;go_upto_region 12 with fail)
      go_region_held3 (λw'=>w'.cell? (p_ w1 0)=some (.slice a1 n1 c1)/\w'.cell? (p_ w1 1)=some (.slice a2 ss c2_)/\w'.cell? (p_ w3 0)=some (.slice a3 n2 c3)/\w'.cell? (p_ w3 1)=some (.slice a4 tt c4)/\w'.cell? (p_ pg k)=some (.slice (q_ g2 0) 2 c2)/\w'.cell? (p_ g2 0)=some (.int .i64 (x:Nat))/\w'.cell? (p_ g2 1)=some (.int .i64 (y:Nat))) (first | with_reducible assumption | go_keep) (first
       | (go_at_call 114;refine(zht _ _ _ (autV e) x m wx.drew (HABX.o.fst.below hbA (le_ _)) (by omega) HAO.o (by omega) hltm).mono ?_;rintro e7 w7 ⟨rfl,hb_⟩;(have hz7:=hb_.size);(have hb7:=hbA.trans (hb_.mono (by omega)));(have hS7:=HGS.o _ hb7);(have HB7:=H_ hb7);clear hb_ hb7))
      (have hbB:Below wx wx w7.drew:=z_ HB7.o;have hSB:=HGS.o _ hbB;have hdz7:w7.drew.heap.size=w7.heap.size:=rfl;clear hSA hbA hS;go_upto_region 13 with fail)
      go_region_held3 (λw'=>w'.cell? (p_ w1 0)=some (.slice a1 n1 c1)/\w'.cell? (p_ w1 1)=some (.slice a2 ss c2_)/\w'.cell? (p_ w3 0)=some (.slice a3 n2 c3)/\w'.cell? (p_ w3 1)=some (.slice a4 tt c4)/\w'.cell? (p_ pg k)=some (.slice (q_ g2 0) 2 c2)/\w'.cell? (p_ g2 0)=some (.int .i64 (x:Nat))/\w'.cell? (p_ g2 1)=some (.int .i64 (y:Nat))) (first | with_reducible assumption | go_keep) (first
       | (go_at_call 114;refine(zht _ _ _ (autV f) y m w7.drew (HABX.o.snd.below hbB (le_ _)) (by omega) HBO.o (by omega) hltm).mono ?_;rintro e8 w8 ⟨rfl,hb_⟩;(have hz8:=hb_.size);(have hb8:=hbB.trans (hb_.mono (by omega)));(have hS8:=HGS.o _ hb8);(have HB8:=H_ hb8);clear hb_ hb8))
      clear hS7 hS8 hSB hbB hdz hdz7 hg hg2;have HQ8:=H_ ((HQ.o.below HB8.o (le_ _)).lower (le_ _) HB8.o.size);have HB48:=H_ (HA.o.2.trans (HB8.o.mono hwx));have HNP:Q_ (nextP (autV e) (autV f) (x,y) m=(stepU (autV e) x m,stepU (autV f) y m)):=H_ rfl;have⟨X,hX⟩:=ex_ (stepU (autV e) x m);have⟨Y,hY⟩:=ex_ (stepU (autV f) y m);have⟨q,hq⟩:=ex_ (prow (autV e) (autV f) o (x,y) m);have HIN:=H_ (zoq (a:=autV e) (b:=autV f) (o:=o) (p:=(x,y)) (k:=m));have HOUT:=H_ (zqn (a:=autV e) (b:=autV f) (o:=o) (p:=(x,y)) (k:=m));rw[<-hX,<-hY]at HNP;rw[HNP.o,<-hq]at HIN HOUT;rw[<-hq]at HQ8 HLN;rw[<-hX,<-hY];clear hX hY hq HQ HA HNP;have hz48:=HB48.o.size;go_wp2_with fail
      refine(zix _ _ _ q X Y w8 HQ8.o.sl (le_ _) (by rw[<-HLN.o];omega)).mono ?_;rintro e9 w9 ⟨rfl,hb9⟩;have hz9:=hb9.size;have HQ9:=H_ ((HQ8.o.below hb9 (le_ _)).lower (le_ _) hz9);have HB9:=HB48.tr hb9 hz48;clear hb9 HQ8 HB48 HB7 HB8 HABX HGS;by_cases hmem:(X,Y)∈q
      ·(have hdm:decide ((X,Y)∈q)=true:=by simp[hmem]);(have HN:=H_ (HIN.o hmem);rw[hdm];clear hdm hmem;go_wp2;go_roundw);(case rel=>exact⟨m+1,by omega,by go_num,H_ ⟨by rw[HN.o];exact⟨_,_,_,rfl,HQ9.o⟩,HB9.o⟩⟩);case measure=>simp[intOf];omega
      ·(have hdm:decide ((X,Y)∈q)=false:=by simp[hmem]);(have HN:=H_ (HOUT.o hmem);rw[hdm];clear hdm hmem;have⟨wA,hwA⟩:=xa_ w9 #[.int .i64 (X:Nat),.int .i64 (Y:Nat)] 3;have hbA:Below w9 w9 wA:=by rw[hwA];exact η _ _);(have hzA:wA=w9.heap.size+1:=by rw[hwA];simp);(have hzw9:=HB9.o.size;have HQA:=H_ ((HQ9.o.below hbA (le_ _)).lower (le_ _) (show w9<=wA.heap.size by omega)))
       have HRA:Q_ (γ w4 wA 3 wA (.slice (q_ w9 0) 2 2) [(X:Int),(Y:Int)]):=H_ (by
        have h:=ς 1 3 w9 (ints [(X:Int),(Y:Int)]) 2 (by omega) rfl;rw[hzA,hwA];exact γ.lower (show γ w9 (w9+1) 3 _ _ [(X:Int),(Y:Int)] from h) (by omega) (le_ _))
       (have HBA:=HB9.tr hbA (by omega);have HWA:=H_ hwA;have HZA:=H_ hzA;clear hwA hbA HQ9 HB9;go_wp2_with (at_builtin;go_loud (refine zbt wA rfl _ _ 119 rfl 22 () 1 24 underlying119 zag rfl (by decide) (by decide) rfl HQA.o.1 1 [.slice (q_ w9 0) 2 2] (by rw[HZA.o];rfl) rfl (by intro u hu;simp only[k_] at hu;subst hu;rfl) (by rw[HWA.o]) ?c1 ?c2 ?_)));case c1=>omega
       case c2=>omega
       intro v10 wB ho10 hg10 _ _;rw[<-HWA.o]at hg10;have HJ:=H_ (Ε.app HQA.o HRA.o ho10 hg10);have HBB:=H_ (δ HBA.o HJ.o.2 (le_ _) (by omega));obtain⟨y10,yc10,rfl⟩:=θ ho10;clear ho10 hg10;go_wp2;go_roundw
       (case rel=>exact⟨m+1,by omega,by go_num,H_ ⟨by rw[HN.o,zci,z1e];exact HJ.o.1,HBB.o⟩⟩);case measure=>simp[intOf];omega
     ·(obtain rfl:m=12:=by omega)
      have hk12:k+1<=ss4.length:=by
       obtain⟨h,_⟩:=HPW.o 12;rw[HLN.o];omega
      have HPS12:=H_ (HPS.o 12 (le_ _));have HNX:=H_ (λh=>PgI.next HPG.o hlt h100' h);have HMN:=H_ (λh=>PgI.many HPG.o hlt h100' h);rw[HGD.o]at HNX HMN;by_cases h101:100<ss4.length
      ·(have HEE:=H_ (show zca e f=[] from by rw[HE.o,HMN.o (by rw[<-HLN.o];exact h101)];rfl));go_wp2;go_ret;exact ε.mk _ rfl ⟨by rw[HEE.o];exact zfb _ _ (by have:=HBw4.o.size;have:=HA.o.2.size;omega),(HBw4.o.trans (HA.o.2.mono HBw4.o.size)).trans ((η _ _).mono (by have:=HBw4.o.size;have:=HA.o.2.size;omega))⟩
      ·(have hl100:ss4.length<=100:=by omega);go_wp2;go_roundw
       (case rel=>exact⟨k+1,_,by rw[<-HLN.o];exact hk12,by rw[<-HLN.o];exact hl100,by go_num,H_ ⟨⟨_,_,_,rfl,HQ.o⟩,HA.o.2,HNX.o (by rw[<-HLN.o];exact hl100),HPS12.o⟩⟩);case measure=>simp[intOf];omega
   ·(obtain rfl:k=o.length:=by omega);have HEE:=H_ (show zca e f=o from by rw[HE.o,PgI.done HQ.o.2.2.1 h100];rfl);go_wp2;go_ret;exact ε.mk _ rfl ⟨by rw[HEE.o];exact Ε.low HQ.o.1 HBw4.o.size,HBw4.o.trans (HQ.o.2.1.mono HBw4.o.size)⟩
structure DLv(n:Nat)(seen:List (Nat × Nat))(ws:List Way2):Prop where
 nodup:(seen++ws.map (·.1)).Nodup
 small:∀ p∈seen++ws.map (·.1),p.1<1024/\p.2<1024
 len:∀ x∈ws,x.2.length=n
theorem DLv.few {seen:List (Nat × Nat)} {ws:List Way2}(h:DLv n seen ws):seen.length+ws.length<=1048576:=by
 have:=pairs_few h.nodup h.small
 simpa using this
theorem DLv.push {seen:List (Nat × Nat)} {ws:List Way2} {p:Nat × Nat}(h:DLv n seen ws)(hn:p ∉ seen++ws.map (·.1))(hp:p.1<1024/\p.2<1024)(ht:t.length=n):DLv n seen (ws++[(p,t)]):=by
 have e:seen++(ws++[(p,t)]).map (·.1)=(seen++ws.map (·.1))++[p]:=by simp
 refine⟨?_,λq hq=>?_,λx hx=>?_⟩
 ·rw[e,d2_]
  exact⟨h.nodup,by simp,λx hx y hy e'=>by simp only[k_] at hy;subst hy;subst e';exact hn hx⟩
 ·rw[e]at hq
  rcases E_.1 hq with hq|hq
  ·exact h.small q hq
  ·simp only[k_]at hq;subst hq;exact hp
 ·rcases E_.1 hx with hx|hx
  ·exact h.len x hx
  ·simp only[k_]at hx;subst hx;exact ht
theorem DLv.start {seen:List (Nat × Nat)} {ws:List Way2}(h:DLv n seen ws)(m:Nat):DLv m (seen++ws.map (·.1)) []:=⟨by simpa using h.nodup,by simpa using h.small,λx hx=>by cases hx⟩
theorem zy5 {a b:Au} {w:Way2} {s:List (Nat × Nat) × List Way2} {seen:List (Nat × Nat)} {f:List Way2}(hs:(seen++f.map (·.1),f)=goW a b w s m)(h:nextP a b w.1 m∈seen\/nextP a b w.1 m∈f.map (·.1)):(seen++f.map (·.1),f)=goW a b w s (m+1):=
 zqr hs (E_.2 h)
theorem z0x {a b:Au} {w:Way2} {s:List (Nat × Nat) × List Way2} {seen:List (Nat × Nat)} {f:List Way2}(hs:(seen++f.map (·.1),f)=goW a b w s m)(h1:nextP a b w.1 m ∉ seen)(h2:nextP a b w.1 m ∉ f.map (·.1)):
  (seen++(f++[(nextP a b w.1 m,w.2++[((m/3:Nat):Int),16+((m%3:Nat):Int)])]).map (·.1),f++[(nextP a b w.1 m,w.2++[((m/3:Nat):Int),16+((m%3:Nat):Int)])])=goW a b w s (m+1):=by
 have h:=zsx hs (λh=>(E_.1 h).elim h1 h2);rw[<-h];simp
theorem zwy(a b:Au)(l:List Way2){k:Nat}(hk:k<l.length)(o:List Int):bestL a b (l.take (k+1)) o=bestW (apartP a b l[k].1) l[k].2 (bestL a b (l.take k) o) 4:=by
 unfold bestL;rw[F_ hk,d3_];rfl
theorem znb {tr:List Int}(ht:tr.length=n)(hb:best.length<=n+1):∀ k,(bestW x tr best k).length<=n+1
 | 0=>hb
 | k+1=>by
  rw[bestW]
  split
  ·simp[ht]
  ·exact znb ht hb k
theorem zl4 {a b:Au}:∀ {l:List Way2} {o:List Int},(∀ w∈l,w.2.length=n)->o.length<=n+1->(bestL a b l o).length<=n+1
 | [],_,_,h=>h
 | w :: r,o,hl,h=>zl4 (l:=r) (λx hx=>hl x (by simp[hx])) (znb (hl w (by simp)) h 4)
theorem zy6 {tr:List Int}(h:(x.testBit (3-k)&&((bestW x tr best k).isEmpty||ltL (tr++[((3-k:Nat):Int)]) (bestW x tr best k)))=true):bestW x tr best (k+1)=tr++[((3-k:Nat):Int)]:=by rw[bestW,x_ h]
theorem zww {tr:List Int}(h:(x.testBit (3-k)&&((bestW x tr best k).isEmpty||ltL (tr++[((3-k:Nat):Int)]) (bestW x tr best k)))=false):bestW x tr best (k+1)=bestW x tr best k:=by rw[bestW,m_ (by simp[h])]
theorem zvi {a b:Au}(hn:n<21){seen:List (Nat × Nat)}{l:List Way2}(hw:WaysI m l)(h:bestL a b l []≠[]):levGo a b (21-n) seen l=some (bestL a b l []):=by
 rw[bestL_hit hw]at h ⊢;cases ht:hitL a b l with
 | none=>rw[ht] at h;exact absurd rfl h
 | some t=>rw[zq7 hn ht];rfl
theorem zoy {a b:Au}:∀ {l:List Way2},hitL a b l=some t->t≠[]
 | [],h=>by cases h
 | w :: r,h=>by
  unfold hitL at h
  split at h
  ·rename_i t' ht
   unfold hitW at ht;obtain⟨k,_,e⟩:=W_.1 ht;injection h with h;subst h;subst e;simp
  ·exact zoy h
theorem zv3 {a b:Au}(hn:n<21){seen:List (Nat × Nat)}{l:List Way2}(hw:WaysI m l)(h:bestL a b l []=[]){q:List (Nat × Nat)}{f:List Way2}(hq:(q,f)=goL a b (seen,[]) l):levGo a b (21-n) seen l=levGo a b (21-(n+1)) q f:=by
 refine zqt hn ?_ hq;rw[bestL_hit hw]at h;cases ht:hitL a b l with
 | none=>rfl
 | some t=>rw[ht] at h;exact absurd h (zoy ht)
theorem zpu(a b:Au):∀ (f i:Nat) (o ps:List (Nat × Nat)),pairGo a b f i o=some ps->∃ r,ps=o++r
 | 0,i,o,ps,h=>⟨[],by simp only[pairGo,ar_] at h;simp[h]⟩
 | f+1,i,o,ps,h=>by
  unfold pairGo at h
  split at h
  ·split at h
   ·cases h
   ·(obtain⟨r,e⟩:=zpu a b f _ _ _ h);obtain⟨r2,e2⟩:=zkf a b o (o.getD i (0,0)) 12;exact⟨r2++r,by rw[e,e2,Z_]⟩
  ·injection h with h
   exact⟨[],by simp[h]⟩
theorem zwi(h:zca e f=[]):differV e f=none:=by
 unfold differV;rw[m_];intro hs;obtain⟨ps,hp⟩:=d7_.1 hs;unfold zca at h;rw[hp,ac_]at h;subst h;unfold pairsV at hp
 split at hp
 ·cases hp
 ·obtain⟨r,hr⟩:=zpu _ _ _ _ _ _ hp
  simp at hr
theorem zvq(h:zca e f≠[]):differV e f=levGo (autV e) (autV f) 21 [(1,1)] [((1,1),[])]:=by
 unfold differV;rw[x_];unfold zca at h;cases hp:pairsV e f with
 | none=>rw[hp] at h;exact absurd rfl h
 | some ps=>rfl
theorem zvm(xs ys:List (Nat × Nat)):prL (xs++ys)=prL xs++prL ys:=by simp[prL]
theorem z23(xs:List (Nat × Nat))(p:Nat × Nat):prL (xs++[p])=prL xs++[[(p.1:Int),(p.2:Int)]]:=by simp[prL]
def FtS(o:Option (List Int))(w:World)(r:Value)(w':World):Prop:=((∃ t v,o=some t/\r=.tuple #[v,.bool true]/\γ w w' 3 w' v t/\t.length<=64)\/(o=none/\∃ g,r=.tuple #[.slice (q_ g 0) 0 0,.bool false]))/\Below w w w'
structure LvS(w4 wr:World)(B:Nat)(vs vt vn:Value)(seen:List (Nat × Nat))(l:List Way2):Prop where
 lo:w4.heap.size<=B
 hi:B<=wr.heap.size
 seen:∃ ss,LLs w4 B wr vs ss (prL seen)
 tr:Ε B wr vt (l.map (·.2))
 now:zci B wr vn (l.map (·.1))
 below:Below w4 w4 wr
theorem LvS.go {seen:List (Nat × Nat)} {l:List Way2}(h:LvS w4 wr B vs vt vn seen l)(hb:Below wr wr wx):LvS w4 wx B vs vt vn seen l:=by
 obtain⟨ss,hs⟩:=h.seen;have hh:=h.hi;have hl:=h.lo;exact⟨h.lo,J_ hh hb.size,⟨ss,hs.below hb hh⟩,h.tr.go hb,h.now.go hb,h.below.trans (hb.mono (by omega))⟩
structure LvG(w4 ws:World)(B:Nat)(vs vt vn:Value)(seen:List (Nat × Nat))(l:List Way2):Prop where
 seen:∃ ss,LLs w4 ws ws vs ss (prL seen)
 tr:Ε B ws vt (l.map (·.2))
 now:zci B ws vn (l.map (·.1))
 below:Below w4 w4 ws
theorem LvG.go {seen:List (Nat × Nat)} {l:List Way2}(h:LvG w4 ws B vs vt vn seen l)(hb:Below ws ws wx):LvG w4 wx B vs vt vn seen l:=by
 obtain⟨ss,hs⟩:=h.seen;have hz:=h.below.size;exact⟨⟨ss,(hs.below hb (le_ _)).lower (le_ _) hb.size⟩,h.tr.go hb,h.now.go hb,h.below.trans (hb.mono hz)⟩
theorem LvS.grow {seen:List (Nat × Nat)} {l:List Way2} {ss sn:List Value}(h:LvS w4 wr B vs vt vn seen l)(hs:LLs w4 B wr vs ss (prL seen))(hn:LLs B wr wr vn sn (prL (l.map (·.1))))
  (ho:Own 1 w4 w9 22 w9 v9 (ss.length+sn.length) (ss++sn)) (hg:wr.grownBy w9 vs.ownBlock):LvG w4 w9 B v9 vt vn (seen++l.map (·.1)) l:=by
 have hh:=h.hi;have hl:=h.lo;have hz:=hg.size
 have far:∀ {v:Value} {us:List Value} {xss:List (List Int)},LLs B wr wr v us xss->LLs B wr w9 v us xss:=fun {v us xss} hv=>LLs.far hv hs.1 hg (by
  cases hb:v.ownBlock with
  | none=>exact .inl rfl
  | some j=>
   right
   intro e;have h1:=(hv.1.1.lt j hb).1;have h2:=hs.1.2 j e.symm;omega)
 obtain⟨gt,ct,st,et,ht⟩:=h.tr;obtain⟨gn,cn,sm,en,hm⟩:=h.now;refine⟨⟨ss++sn,?_⟩,⟨gt,ct,st,et,(far ht).lower (le_ _) hz⟩,⟨gn,cn,sm,en,(far hm).lower (le_ _) hz⟩,δ h.below (zbz hg hs.1.lt) (le_ _) (by omega)⟩;rw[zvm];exact zbg hs hg ho rfl hn.2.1 (λi h1 h2=>(hn.2.2 i h1 h2).lower hl hz) (by omega)
theorem z2s {w5:World}(hw:w5=((((w4.alloc (.cells #[] 22)).alloc (.cells #[] 3)).alloc (.cells #[.slice (q_ (w4+1) 0) 0 0] 22)).alloc (.cells #[(1:Int),(1:Int)] 3)).alloc (.cells #[.slice (q_ (w4+3) 0) 2 2] 22)):
  LvS w4 w5 (w4+1) (.slice (q_ w4 0) 0 0) (.slice (q_ (w4+2) 0) 1 1) (.slice (q_ (w4+4) 0) 1 1) [] [((1,1),[])]:=by
 have⟨a1,h1⟩:=xa_ w4 #[] 22;have⟨a2,h2⟩:=xa_ a1 #[] 3;have⟨a3,h3⟩:=xa_ a2 #[.slice (q_ (w4+1) 0) 0 0] 22;have⟨a4,h4⟩:=xa_ a3 #[(1:Int),(1:Int)] 3;rw[<-h1,<-h2,<-h3,<-h4]at hw;have b1:Below w4 w4 a1:=by rw[h1];exact η _ _
 have b2:Below a1 a1 a2:=by rw[h2];exact η _ _
 have b3:Below a2 a2 a3:=by rw[h3];exact η _ _
 have b4:Below a3 a3 a4:=by rw[h4];exact η _ _
 have b5:Below a4 a4 w5:=by rw[hw];exact η _ _
 have s1:a1=w4.heap.size+1:=by rw[h1];simp
 have s2:a2=w4.heap.size+2:=by rw[h2,ν];omega
 have s3:a3=w4.heap.size+3:=by rw[h3,ν];omega
 have s4:a4=w4.heap.size+4:=by rw[h4,ν];omega
 have s5:w5=w4.heap.size+5:=by rw[hw,ν];omega
 have k1:LLs w4 (w4+1) a1 (.slice (q_ w4 0) 0 0) [] []:=by rw[h1];exact zfd _ w4 (le_ _)
 have k2:γ a1 a2 3 a2 (.slice (q_ (w4+1) 0) 0 0) []:=by
  rw[s2,h2,<-s1];have h:=ς 1 3 a1 (ints []) 0 (by omega) rfl;rw[show w4+2=a1.heap.size+1 by omega];exact h
 have k3:LLs a1 a3 a3 (.slice (q_ (w4+2) 0) 1 1) [.slice (q_ (w4+1) 0) 0 0] [[]]:=by
  have h:=LLs.one k2 (by omega);rw[<-h3,show a2+1=a3.heap.size by omega,s2]at h;exact h
 have k4:γ a3 a4 3 a4 (.slice (q_ (w4+3) 0) 2 2) [1,1]:=by
  rw[s4,h4,<-s3];have h:=ς 1 3 a3 (ints [1,1]) 2 (by omega) rfl;rw[show w4+4=a3.heap.size+1 by omega];exact h
 have k5:LLs a3 w5 w5 (.slice (q_ (w4+4) 0) 1 1) [.slice (q_ (w4+3) 0) 2 2] [[1,1]]:=by
  have h:=LLs.one k4 (by omega);rw[<-hw,show a4+1=w5.heap.size by omega,s4]at h;exact h
 have b15:Below a1 a1 w5:=((b2.trans (b3.mono (by omega))).trans (b4.mono (by omega))).trans (b5.mono (by omega));have b35:Below a3 a3 w5:=b4.trans (b5.mono (by omega));refine⟨by omega,by omega,⟨[],k1.below b15 (by omega)⟩,⟨_,1,[.slice (q_ (w4+1) 0) 0 0],rfl,?_⟩,⟨_,1,[.slice (q_ (w4+3) 0) 2 2],rfl,?_⟩,b1.trans (b15.mono (by omega))⟩
 ·exact(k3.below b35 (le_ _)).lower (by omega) (by omega)
 ·exact k5.lower (by omega) (le_ _)
structure FuT(ws wx:World)(vt vn:Value)(ts:List (List Int))(ps:List (Nat × Nat)):Prop where
 tr:Ε ws wx vt ts
 now:zci ws wx vn ps
 ne:∀ j,vt.ownBlock=some j->vn.ownBlock=some j->False
 below:Below ws ws wx
theorem FuT.go {wy:World} {ts:List (List Int)} {ps:List (Nat × Nat)}(h:FuT ws wx vt vn ts ps)(hb:Below wx wx wy):FuT ws wy vt vn ts ps:=
 ⟨h.tr.go hb,h.now.go hb,h.ne,h.below.trans (hb.mono h.below.size)⟩
theorem zqm {a b:Option Nat}(h:∀ j,a=some j->b=some j->False):a=none\/a≠b:=by
 cases a with
 | none=>exact .inl rfl
 | some j=>exact .inr λe=>h j rfl e.symm
theorem FuT.pushNow {gn cn:Nat} {sn:List Value} {ts:List (List Int)} {ps:List (Nat × Nat)} {p:Nat × Nat}(h:FuT ws wA vt (.slice (q_ gn 0) sn cn) ts ps)(hq:LLs ws wA wA (.slice (q_ gn 0) sn cn) sn (prL ps))
  (hs:γ ws wA 3 wA s [(p.1:Int),(p.2:Int)]) (ho:Own 1 ws w9 22 w9 v9 (sn.length+1) (sn++[s])) (hg:(wA.alloc (.cells #[s] 22)).grownBy w9 (Value.slice (q_ gn 0) sn cn).ownBlock)
  (hl:v9.ownBlock=(Value.slice (q_ gn 0) sn cn).ownBlock\/v9.ownBlock=some (wA.alloc (.cells #[s] 22)).heap.size):FuT ws w9 vt v9 ts (ps++[p]):=by
 obtain⟨gt,ct,st,et,ht⟩:=h.tr;have hJ:=Ε.app hq hs ho hg;have hbe:=LLs.beside hq ht (le_ _) (zqm h.ne) hg hl;have hz:(wA.alloc (.cells #[s] 22)).heap.size=wA.heap.size+1:=ν _ _;have hz9:=hg.size;refine⟨⟨gt,ct,st,et,hbe.1.lower (le_ _) (by omega)⟩,?_,λj e1 e2=>?_,δ h.below hJ.2 (le_ _) h.below.size⟩
 ·rw[zci,z23]
  exact hJ.1
 ·rcases hbe.2 with e|e
  ·rw[e]at e1;cases e1
  ·exact e (e1.trans e2.symm)
theorem FuT.pushTr {gt ct:Nat} {st:List Value} {ts:List (List Int)} {ps:List (Nat × Nat)}(h:FuT ws wA (.slice (q_ gt 0) st ct) vn ts ps)(hq:LLs ws wA wA (.slice (q_ gt 0) st ct) st ts)
  (hs:γ ws wA 3 wA s t) (ho:Own 1 ws w9 22 w9 v9 (st.length+1) (st++[s])) (hg:(wA.alloc (.cells #[s] 22)).grownBy w9 (Value.slice (q_ gt 0) st ct).ownBlock)
  (hl:v9.ownBlock=(Value.slice (q_ gt 0) st ct).ownBlock\/v9.ownBlock=some (wA.alloc (.cells #[s] 22)).heap.size):FuT ws w9 v9 vn (ts++[t]) ps:=by
 obtain⟨gn,cn,sn,en,hn⟩:=h.now;have hJ:=Ε.app hq hs ho hg;have hbe:=LLs.beside hq hn (le_ _) (zqm λj e1 e2=>h.ne j e2 e1) hg hl;have hz:(wA.alloc (.cells #[s] 22)).heap.size=wA.heap.size+1:=ν _ _;have hz9:=hg.size;refine⟨hJ.1,⟨gn,cn,sn,en,hbe.1.lower (le_ _) (by omega)⟩,λj e1 e2=>?_,δ h.below hJ.2 (le_ _) h.below.size⟩;rcases hbe.2 with e|e
 ·rw[e]at e2;cases e2
 ·exact e (e2.trans e1.symm)
theorem FuT.start(w:World):FuT w ((w.alloc (.cells #[] 22)).alloc (.cells #[] 22)) (.slice (q_ w 0) 0 0) (.slice (q_ (w+1) 0) 0 0) [] []:=by
 have h2:=zfb w (w.alloc (.cells #[] 22)) (by simp);rw[ν]at h2;refine⟨(zfb w w (le_ _)).go (η _ _),h2,λj e1 e2=>?_,(η _ _).trans ((η _ _).mono (by simp))⟩;simp only[Value.ownBlock,ar_]at e1 e2;omega
theorem zz0(a b:Au)(x y:Nat):apartP a b (x,y)=0↔endsU a x=endsU b y:=by
 unfold apartP
 constructor
 ·intro h
  refine Nat.eq_of_testBit_eq λi=>?_
  have h2:(endsU a x ^^^ endsU b y).testBit i=false:=by rw[h];simp
  rw[Nat.testBit_xor]at h2
  revert h2
  cases (endsU a x).testBit i<;>cases (endsU b y).testBit i<;>simp
 ·intro h
  simp only;rw[h,Nat.xor_self]
theorem zp1 {K:Nat}(h:x<K):inB (x:Int) 0 ((K:Int)-1)=true:=by
 unfold inB;rw[j_,t_,t_];omega
theorem zvv(lo hi lo' hi' lp:Nat)(ve vf vp:Value)(e f:List Int)(ps:List (Nat × Nat))(w:World)(hx:SlI lo hi w ve e)(hy:SlI lo' hi' w vf f)(hz:zci lp w vp ps)(hh:hi<=w)(hh':hi'<=w)(hm:e.length<=1048576)(hm':f.length<=1048576)(h100:ps.length<=100)(hr:∀ p∈ps,p.1<2 ^ (autV e).ends.length/\p.2<2 ^ (autV f).ends.length):
  Calls prog 105 #[ve,vf,vp] w λr w'=>r=.returned (.bool (okX e f ps))/\Below w w w':=by
 have HX:=H_ hx;have HY:=H_ hy;have HZ:=H_ hz;have HR:=H_ hr;have HAO:=H_ (zbs e);have HBO:=H_ (zbs f);have HB0:=H_ (B_ w w);obtain⟨pg,pc,rfl⟩:=hz.shape;clear hx hy hz hr
 go_enter func105,ntmps105
 go_wp2_with fail
 refine(zg3 _ _ _ e w (HX.o.below HB0.o hh) (by have:=HB0.o.size;omega) hm).mono ?_;rintro e1 w1 ⟨v1,rfl,⟨va,vb,ss,rfl,ha1,ha2⟩,hb1⟩;have hz1_:=HB0.o.size;have hz1:=hb1.size;obtain⟨a1,c1,rfl⟩:=θ ha1;obtain⟨a2,c2_,rfl⟩:=θ ha2.1;have⟨w2,hww2⟩:=xa_ w1 #[.slice a1 (autV e).ends.length c1,.slice a2 ss c2_] 123;obtain⟨hb2,K2,hsw2⟩:=Μ hww2;have HBw2:=H_ ((HB0.o.trans (hb1.mono (by omega))).trans (hb2.mono (by omega)));have HAw2:=H_ (show AuS w w2 w2 (.agg #[.slice a1 (autV e).ends.length c1,.slice a2 ss c2_]) (autV e)/\Blk w1 (.cells #[.slice a1 (autV e).ends.length c1,.slice a2 ss c2_] 123) w2 from ⟨zhm (zho ⟨_,_,rfl,ha1.sl,ha2.sl⟩ hb2 (le_ _)) (by omega) (by omega),K2⟩);clear hb1 hb2 K2 ha1 ha2;go_wp2_with fail
 simp only[<-hww2];clear hww2;refine(zg3 _ _ _ f w2 (HY.o.below HBw2.o hh') (by have:=HBw2.o.size;omega) hm').mono ?_;rintro e3 w3 ⟨v3,rfl,⟨vc,vd,tt,rfl,ha1,ha2⟩,hb1⟩;have hz3:=hb1.size;obtain⟨a3,c3,rfl⟩:=θ ha1;obtain⟨a4,c4,rfl⟩:=θ ha2.1;have⟨w4,hww4⟩:=xa_ w3 #[.slice a3 (autV f).ends.length c3,.slice a4 tt c4] 123;obtain⟨hb2,K2,hsw4⟩:=Μ hww4;have HBw4:=H_ ((HBw2.o.trans (hb1.mono (by omega))).trans (hb2.mono (by omega)));have⟨n1,hn1⟩:=ex_ ((autV e).ends.length);have⟨n2,hn2⟩:=ex_ ((autV f).ends.length);have HN1:=H_ hn1;have HN2:=H_ hn2
 have HAB:Q_ (AuB w w4 w1 w3 (.slice a1 n1 c1) (.slice a2 ss c2_) (.slice a3 n2 c3) (.slice a4 tt c4) (autV e) (autV f)):=by
  rw[hn1,hn2];exact H_ ⟨(HAw2.o.2.below hb1 (by omega)).below hb2 (by omega),K2,((HAw2.o.1.below hb1 (by omega)).below hb2 (by omega)).wide (le_ _) (by omega),zhm (zho ⟨_,_,rfl,ha1.sl,ha2.sl⟩ hb2 (le_ _)) (by omega) (by omega)⟩
 clear hb1 hb2 K2 ha1 ha2 HAw2 hn1 hn2;go_upto_region 3 with fail
 simp only[<-hww4];clear hww4;have ca:=HAB.o.one.cell 0;have cb:=HAB.o.two.cell 0;have hga:=HAB.o.one.lt;have hgb:=HAB.o.two.lt;have hw04:=HBw4.o.size;have HZ4:=H_ (HZ.o.go (HBw4.o.mono (le_ _)));by_cases h0:n1=0\/n2=0
 ·have HE:=H_ (zmo (e:=e) (f:=f) (ps:=ps) (h0.imp (λh=>A_ (HN1.o.symm.trans h)) (λh=>A_ (HN2.o.symm.trans h))))
  cases g1:decide ((n1:Int)=0)<;>cases g2:decide ((n2:Int)=0)
  ·exfalso
   have:=bc_ g1;have:=bc_ g2;omega
  all_goals (
   have g3:((n1:Int)==0)=decide ((n1:Int)=0):=rfl;have g4:((n2:Int)==0)=decide ((n2:Int)=0):=rfl;rw[g1]at g3;rw[g2]at g4;go_wp2;go_ret;exact⟨φ HE.o,HBw4.o⟩)
 ·have g1:((n1:Int)==0)=false:=by simp;omega
  have g2:((n2:Int)==0)=false:=by simp;omega
  have HOP:=H_ (show (autV e).ends≠[]/\(autV f).ends≠[] from ⟨λh=>h0 (.inl (by rw[HN1.o,h];rfl)),λh=>h0 (.inr (by rw[HN2.o,h];rfl))⟩);have hd100:decide ((100:Int)<(ps.length:Int))=false:=by simp;omega
  have hn1:n1<=10:=by rw[HN1.o];exact HAO.o.le
  have hn2:n2<=10:=by rw[HN2.o];exact HBO.o.le
  clear h0;have⟨B,hB⟩:=ex_ (decide ((1,1)∈ps));have HC:=H_ (zix _ _ _ ps 1 1 w4 HZ4.o.sl (le_ _) (by omega));rw[<-hB]at HC;have⟨N,hN⟩:=ex_ (!B);have HNE:=H_ hN;have HBE:=H_ (show N=!decide ((1,1)∈ps) by rw[hN,hB]);clear hB hN
  go_cut [35] (λv wx=>v=.bool N/\Q_ (Below w4 w4 wx))
  case first=>
   go_wp2_with fail
   refine HC.o.mono ?_;rintro e5 w5 ⟨rfl,hb5⟩;have HB5:=H_ hb5;clear hb5;go_wp2_with fail
   go_meet
   exact⟨by rw[HNE.o],HB5⟩
  obtain⟨rfl,HB5⟩:=hcut;obtain⟨w5,rfl⟩:=ex_ wc;have hz5:=HB5.o.size;clear ca cb HC HNE;by_cases h11:(1,1)∈ps
  ·have HNO:=H_ h11
   obtain rfl:N=false:=by rw[HBE.o];simp[h11]
   clear h11 HBE;go_wp2;go_loopw [9] (λi wr=>∃ k:Nat,k<=ps.length/\i=.int .i64 k/\Q_ (Below w4 w4 wr)/\Q_ (∀ j (h:j<ps.length),j<k->apartP (autV e) (autV f) ps[j]=0/\∀ m,m<12->nextP (autV e) (autV f) ps[j] m∈ps)) (λi _=>ps.length-(intOf i).toNat)
   case atStart=>exact⟨0,by omega,rfl,HB5,H_ (λj _ h=>by omega)⟩
   case round=>
    rename World=>wr
    obtain⟨k,hk,rfl,HBR,HG⟩:=hrel;have hwr:=HBR.o.size;by_cases hlt:k<ps.length
    ·(obtain⟨x,y,hxy⟩:∃ x y,ps[k]=(x,y):=⟨_,_,rfl⟩);(have HXY:=H_ hxy)
     have HRK:=H_ (show x<2 ^ n1/\y<2 ^ n2 from by
      have:=HR.o _ (u_ hlt);rw[hxy,<-HN1.o,<-HN2.o]at this;exact this)
     (obtain⟨g2_,c2,hg,hg2,hcc,hx0,hy0⟩:=(HZ4.o.go HBR.o).at k hlt x y hxy;have⟨g2,hg2e⟩:=ex_ g2_;rw[<-hg2e]at hg2 hcc hx0 hy0;have HABX:=H_ (HAB.o.go HBR.o);have hgs:∀ w',Below wr wr w'->w'.cell? (p_ w1 0)=some (.slice a1 n1 c1)/\w'.cell? (p_ w1 1)=some (.slice a2 ss c2_)/\w'.cell? (p_ w3 0)=some (.slice a3 n2 c3)/\w'.cell? (p_ w3 1)=some (.slice a4 tt c4)/\w'.cell? (p_ g2 0)=some (.int .i64 (x:Nat))/\w'.cell? (p_ g2 1)=some (.int .i64 (y:Nat)):=λw' hb=>⟨(HABX.o.go hb).one.cell 0,(HABX.o.go hb).one.cell 1,(HABX.o.go hb).two.cell 0,(HABX.o.go hb).two.cell 1,(hb.cell (p:=p_ g2 0) hg2).trans hx0,(hb.cell (p:=p_ g2 1) hg2).trans hy0⟩);(have hx20:x<1048576:=T_ HRK.o.1 (J_ (ah_ (by omega) hn1) (by omega));have hy20:y<1048576:=T_ HRK.o.2 (J_ (ah_ (by omega) hn2) (by omega));have hbA:Below wr wr wr.drew:=z_ (B_ _ _);have hS:=hgs wr (B_ _ _);have hSA:=hgs _ hbA;have HGS:=H_ hgs;have hdz:wr.drew.heap.size=wr.heap.size:=rfl;have⟨K1,hK1⟩:=ex_ (2 ^ n1);have⟨K2,hK2⟩:=ex_ (2 ^ n2);have pe1:(2:Int) ^ n1=(K1:Int):=by rw[hK1];push_cast;rfl);(have pe2:(2:Int) ^ n2=(K2:Int):=by rw[hK2];push_cast;rfl);(have hKb1:K1<=1024:=by rw[hK1];exact J_ (ah_ (by omega) hn1) (by decide));(have hKb2:K2<=1024:=by rw[hK2];exact J_ (ah_ (by omega) hn2) (by decide));(have HI1:=H_ (show inB (x:Int) 0 ((K1:Int)-1)=true from zp1 (by rw[hK1];exact HRK.o.1));have HI2:=H_ (show inB (y:Int) 0 ((K2:Int)-1)=true from zp1 (by rw[hK2];exact HRK.o.2));have pw1:IntKind.i64.wrap (2 ^ n1)=(K1:Int):=by rw[pe1,dh_];omega);(have pw2:IntKind.i64.wrap (2 ^ n2)=(K2:Int):=by rw[pe2,dh_];omega);(have pv1:IntKind.i64.wrap ((K1:Int)-1)=(K1:Int)-1:=by rw[dh_];omega);(have pv2:IntKind.i64.wrap ((K2:Int)-1)=(K2:Int)-1:=by rw[dh_];omega);clear hK1 hK2 pe1 pe2;have hne2:((2:Int) !=2)=false:=by decide
     clear hgs hx0 hy0 hxy hg2e;have HEX:=H_ (zz0 (autV e) (autV f) x y);have HE1:=H_ (zki _ _ _ (autV e) x wr.drew (HABX.o.fst.below hbA (le_ _)) (by omega) HAO.o hx20);have HE2:=H_ (λw7 (hb:Below wr wr w7)=>zki _ _ _ (autV f) y w7 (HABX.o.snd.below hb (le_ _)) (by have:=hb.size;omega) HBO.o hy20);have⟨P,hP⟩:=ex_ (endsU (autV e) x);have⟨Q,hQ⟩:=ex_ (endsU (autV f) y);rw[<-hP,<-hQ]at HEX;rw[<-hP]at HE1;rw[<-hQ]at HE2;clear hP hQ;have⟨N2,hN2⟩:=ex_ ((P:Int) !=(Q:Int));have HN2:=H_ hN2;clear hN2;go_upto_region 9 with fail
     go_cut [85] (λv wx=>v=.bool N2/\Q_ (Below wr wr wx))
     case first=>
      go_region_held3 (λw'=>w'.cell? (p_ w1 0)=some (.slice a1 n1 c1)/\w'.cell? (p_ w1 1)=some (.slice a2 ss c2_)/\w'.cell? (p_ w3 0)=some (.slice a3 n2 c3)/\w'.cell? (p_ w3 1)=some (.slice a4 tt c4)/\w'.cell? (p_ g2 0)=some (.int .i64 (x:Nat))/\w'.cell? (p_ g2 1)=some (.int .i64 (y:Nat))) (first | with_reducible assumption | go_keep) (first
       | (go_at_call_of 101 (Value.int .i64 ((x:Nat):Int));refine(za4 _ _ _ _).mono ?_;rintro e_ _ ⟨rfl,rfl⟩;(try rw[HI1.o]))
       | (go_at_call_of 101 (Value.int .i64 ((y:Nat):Int));refine(za4 _ _ _ _).mono ?_;rintro e_ _ ⟨rfl,rfl⟩;(try rw[HI2.o]))
       | (go_at_call_of 112 (Value.agg #[.slice a1 n1 c1,.slice a2 ss c2_]);refine HE1.o.mono ?_;rintro e7 w7 ⟨rfl,hb_⟩;(have hz7:=hb_.size);(have hb7:=hbA.trans (hb_.mono (by omega)));(have hS7:=HGS.o _ hb7);(have HB7:=H_ hb7);clear hb_ hb7)
       | (go_at_call_of 112 (Value.agg #[.slice a3 n2 c3,.slice a4 tt c4]);refine(HE2.o w7 HB7.o).mono ?_;rintro e8 w8 ⟨rfl,hb_⟩;(have hz8:=hb_.size);(have hb8:=HB7.o.trans (hb_.mono (by omega)));(have hS8:=HGS.o _ hb8);(have HB8:=H_ hb8);clear hb_ hb8))
      go_wp2_with fail
      go_meet
      exact⟨by rw[HN2.o],HB8⟩
     obtain⟨rfl,HB8⟩:=hcut;obtain⟨w8,rfl⟩:=ex_ wc;have HIN:=H_ (show (x,y)∈ps from by rw[<-HXY.o];exact u_ hlt);have HB48:=HBR.tr HB8.o hwr;have hz48:=HB48.o.size;clear hS hSA hbA hdz pw1 pw2 pv1 pv2 HI1 HI2 hne2 HE1 HE2;by_cases heq:P=Q
     ·(obtain rfl:N2=false:=by rw[HN2.o];simp[heq]);(have HA0:=H_ (HEX.o.2 heq);clear heq HEX HN2;go_wp2;go_loopw [11] (λi wx=>∃ m:Nat,m<=12/\i=.int .i64 m/\Q_ (Below wr wr wx)/\Q_ (∀ j,j<m->nextP (autV e) (autV f) (x,y) j∈ps)) (λi _=>12-(intOf i).toNat));case atStart=>exact⟨0,by omega,rfl,HB8,H_ (λj h=>by omega)⟩
      case round=>
       rename World=>wx
       obtain⟨m,hm12,rfl,HX2,HM⟩:=hrel;have hzx:=HX2.o.size;by_cases hltm:m<12
       ·(have hgs2:∀ w',Below wx wx w'->w'.cell? (p_ w1 0)=some (.slice a1 n1 c1)/\w'.cell? (p_ w1 1)=some (.slice a2 ss c2_)/\w'.cell? (p_ w3 0)=some (.slice a3 n2 c3)/\w'.cell? (p_ w3 1)=some (.slice a4 tt c4)/\w'.cell? (p_ g2 0)=some (.int .i64 (x:Nat))/\w'.cell? (p_ g2 1)=some (.int .i64 (y:Nat)):=λw' hb=>HGS.o w' (HX2.o.trans (hb.mono hzx)));(have hbC:Below wx wx wx.drew:=z_ (B_ _ _);have hT:=hgs2 wx (B_ _ _);have hTC:=hgs2 _ hbC;have HGT:=H_ hgs2;have hdx:wx.drew.heap.size=wx.heap.size:=rfl;have HNP:Q_ (nextP (autV e) (autV f) (x,y) m=(stepU (autV e) x m,stepU (autV f) y m)):=H_ rfl;have HC1:=H_ (zht _ _ _ (autV e) x m wx.drew (HABX.o.fst.below (HX2.o.trans (hbC.mono hzx)) (le_ _)) (by omega) HAO.o (by omega) hltm);have HC2:=H_ (λw7 (hb:Below wx wx w7)=>zht _ _ _ (autV f) y m w7 (HABX.o.snd.below (HX2.o.trans (hb.mono hzx)) (le_ _)) (by have:=hb.size;omega) HBO.o (by omega) hltm);have⟨X,hX⟩:=ex_ (stepU (autV e) x m);have⟨Y,hY⟩:=ex_ (stepU (autV f) y m);rw[<-hX,<-hY]at HNP;rw[<-hX]at HC1;rw[<-hY]at HC2;clear hgs2 hX hY;go_upto_region 14 with fail)
        go_region_held3 (λw'=>w'.cell? (p_ w1 0)=some (.slice a1 n1 c1)/\w'.cell? (p_ w1 1)=some (.slice a2 ss c2_)/\w'.cell? (p_ w3 0)=some (.slice a3 n2 c3)/\w'.cell? (p_ w3 1)=some (.slice a4 tt c4)/\w'.cell? (p_ g2 0)=some (.int .i64 (x:Nat))/\w'.cell? (p_ g2 1)=some (.int .i64 (y:Nat))) (first | with_reducible assumption | go_keep) (first
         | (go_at_call_of 114 (Value.agg #[.slice a1 n1 c1,.slice a2 ss c2_]);refine HC1.o.mono ?_;rintro e9 w9 ⟨rfl,hb_⟩;(have hz9:=hb_.size);(have hb9:=hbC.trans (hb_.mono (by omega)));(have hT9:=HGT.o _ hb9);(have HB9:=H_ hb9);clear hb_ hb9)
         | (go_at_call_of 114 (Value.agg #[.slice a3 n2 c3,.slice a4 tt c4]);refine(HC2.o w9 HB9.o).mono ?_;rintro e10 w10 ⟨rfl,hb_⟩;(have hz10:=hb_.size);(have hb10:=HB9.o.trans (hb_.mono (by omega)));(have hT10:=HGT.o _ hb10);(have HB10:=H_ hb10);clear hb_ hb10)
         | (go_at_call 115;refine(zix _ _ _ ps X Y w10 (HZ4.o.go (HBR.o.trans ((HX2.o.trans (HB10.o.mono hzx)).mono hwr))).sl (le_ _) (by omega)).mono ?_;rintro e11 w11 ⟨rfl,hb_⟩;(have hz11:=hb_.size);(have hb11:=HB10.o.trans (hb_.mono (by omega)));(have hT11:=HGT.o _ hb11);(have HB11:=H_ hb11);clear hb_ hb11))
        have HX11:=HX2.tr HB11.o hzx;clear hT hTC hT9 hT10 hT11 HB9 HB10 HB11 hbC hdx HGT;by_cases hmem:(X,Y)∈ps
        ·(have hdm2:decide ((X,Y)∈ps)=true:=by simp[hmem])
         have HN:=H_ (show ∀ j,j<m+1->nextP (autV e) (autV f) (x,y) j∈ps from λj h=>by
          rcases bi_ j m with h1|h1
          ·exact HM.o j h1
          ·(obtain rfl:j=m:=by omega);rw[HNP.o];exact hmem)
         rw[hdm2];clear hdm2 hmem HNP HC1 HC2 HM;go_wp2;go_roundw
         (case rel=>exact⟨m+1,by omega,by go_num,HX11,HN⟩);case measure=>simp[intOf];omega
        ·(have hdm2:decide ((X,Y)∈ps)=false:=by simp[hmem]);have HN:=H_ (zqb (e:=e) (f:=f) HIN.o hltm (show nextP (autV e) (autV f) (x,y) m ∉ ps by rw[HNP.o];exact hmem));rw[hdm2];clear hdm2 hmem;go_wp2;go_ret;exact⟨φ HN.o,HBw4.o.trans ((HBR.o.trans (HX11.o.mono hwr)).mono hw04)⟩
       ·(obtain rfl:m=12:=by omega)
        have HGK:=H_ (show ∀ j (h:j<ps.length),j<k+1->apartP (autV e) (autV f) ps[j]=0/\∀ m,m<12->nextP (autV e) (autV f) ps[j] m∈ps from λj h hjk=>by
         by_cases hj:j=k
         ·subst hj
          rw[HXY.o];exact⟨HA0.o,HM.o⟩
         ·exact HG.o j h (by omega))
        go_wp2;go_roundw
        (case rel=>exact⟨k+1,by omega,by go_num,HBR.tr HX2.o hwr,HGK⟩);case measure=>simp[intOf];omega
     ·(obtain rfl:N2=true:=by rw[HN2.o];simp;omega);have HN:=H_ (zrk (e:=e) (f:=f) HIN.o (λh=>heq (HEX.o.1 h)));clear heq HEX;go_wp2;go_ret;exact⟨φ HN.o,HBw4.o.trans (HB48.o.mono hw04)⟩
    ·(obtain rfl:k=ps.length:=by omega)
     have HN:=H_ (zph (e:=e) (f:=f) HOP.o h100 HNO.o (λr hr=>by
      obtain⟨p,hp,rfl⟩:=aa_.1 hr;exact⟨p.1,p.2,rfl,(HR.o p hp).1,(HR.o p hp).2⟩) (λp hp=>by
      obtain⟨j,hj,rfl⟩:=ax_ hp;exact HG.o j hj hj))
     go_wp2;go_ret;exact⟨φ HN.o,HBw4.o.trans (HBR.o.mono hw04)⟩
  ·have HN:=H_ (zig (e:=e) (f:=f) (ps:=ps) (λh=>h11 (okP_open h).2.1))
   obtain rfl:N=true:=by rw[HBE.o];simp[h11]
   clear h11 HBE;go_wp2;go_ret;exact⟨φ HN.o,HBw4.o.trans (HB5.o.mono hw04)⟩
end Go.Proofs.YtfnnhimopokpnaaGreatDoor
