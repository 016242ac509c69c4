/- Lemmas for this seat; no condition. -/
import Derived.Test.YtfnnhimopokpnaaGreatDoorHDAT
namespace Go.Proofs.YtfnnhimopokpnaaGreatDoor
open Go.RowKit Proofs.Tryz
set_option maxRecDepth 100000
set_option maxHeartbeats 0
set_option linter.all false
variable {e f t best:List Int} {x k lo n m B:Nat} {w w' w4 wr wx w9 ws wA:World} {v vs vt vn v9 s:Value}
theorem ztp(e:List Int)(h:(zcz e).length<=10):autV e=⟨(zcz e).map endL,(zcz e).map (nextL (zcz e))⟩:=by
 unfold autV;unfold zcz at h ⊢;cases hk:ν e
 ·simp
 ·rw[hk,x_ rfl]at h
  rw[x_ (by simp[h])];simp
theorem z0w(e:List Int)(h:¬(zcz e).length<=10):autV e=⟨[],[]⟩:=by
 unfold autV;unfold zcz at h;cases hk:ν e
 ·simp
 ·rw[hk,x_ rfl]at h
  rw[m_ (by simp[h])]
theorem zwq:∀ x∈zcz e,∃ t:KT,t=Τ x/\t.post=x/\t.ok 0=true/\t.size<=1640:=by
 intro x hx;unfold zcz at hx
 split at hx
 ·rename_i hv
  obtain⟨t0,h1,h2,_,h4⟩:=zex hv;have hA:=allV_all h1 h4;rw[h2]at hA;obtain⟨q,c1,c2⟩:=hA.cl.mem _ hx;have hq:=(Cl.kept h1).ok c1;refine⟨q,?_,c2,hq,Cl.size c1 h4⟩;rw[<-c2,zee hq]
 ·cases hx
theorem zhq(lo hi:Nat)(v:Value)(e:List Int)(w:World)(hx:SlI lo hi w v e)(hh:hi<=w)(hm:e.length<=1048576):
  Calls prog 111 #[v] w (ι λv' w'=>AuW w w' w' v' (autV e)/\Below w w w'):=by
 have⟨w0,b0⟩:=xa_ w #[(),()] 123;have HB:Q_ (Below w w w0):=by rw[b0];exact H_ ((B_ _ _).alloc (le_ _) _)
 have K1:Q_ (Blk w (.cells #[(),()] 123) w0):=by rw[b0];exact H_ (κ w _)
 have k4:w0=w.heap.size+1:=by rw[b0];simp
 have⟨r5,r6⟩:w+1<=w0.heap.size/\w0<=w.heap.size+1:=by omega
 have HX:=H_ (hx.below HB.o hh);obtain⟨a,cap,rfl,o4,p9⟩:=π hx;clear hx k4
 go_enter func111,ntmps111
 go_wp2_with fail
 simp only[<-b0];clear b0;refine(zte _ _ _ e w0 HX.o hm (by omega)).mono ?_;rintro e2 w2 ⟨v2,rfl,n5,hb2⟩;have p2:=hb2.size;obtain⟨lg,lc,I,rfl,hl⟩:=n5;have U:=H_ hl.2.1;have HL:=H_ hl;have f6:=HB.tr hb2 (by omega);have K2:=H_ (K1.o.below hb2 (by omega));have f4:=H_ (ztp e);have f5:=H_ (z0w e);have e3:=H_ (λk (hk:k<(zcz e).length)=>zwq _ (u_ hk));have⟨L,hL⟩:=ex_ (zcz e);rw[<-hL]at HL U f4 f5 e3
 have c8:=H_ (show ∀ wz,Below w2 w2 wz->∀ j (h1:j<I.length) (h2:j<L.length),∃ pa pc,lg<wz.heap.size/\wz.cell? (p_ lg j)=some (.slice pa L[j].length pc)/\SlI w0 w2 wz (.slice pa L[j].length pc) L[j] from λwz hb j h1 h2=>by
  obtain⟨g,e,_,_,hg,hc,hu⟩:=(HL.o.below hb (le_ _)).at j h1 h2;injection e with e;injection e with e;subst e;obtain⟨pa,pc,hs⟩:=η hu;rw[hs]at hc hu;exact⟨pa,pc,hg,hc,hu.sl⟩)
 have⟨w3,a2⟩:=xa_ w2 #[(),()] 123;have o1:w3=w2.heap.size+1:=by rw[a2];simp
 have c6:Q_ (Below w2 w2 w3):=by rw[a2];exact H_ (ζ _ _)
 have⟨k8,p3⟩:w2+1<=w3.heap.size/\w3<=w2.heap.size+1:=by omega
 have Z:Q_ (AUI w2 w3 w3 L 0 () () []):=by
  refine H_ ⟨?_,Ω _ _ _ _ _,zfu _ _ _,λu hu=>by simp at hu,β.refl _ _ _⟩;rw[a2];exact κ w2 _
 clear hl hb2 hL o1;by_cases i2:I.length<=10
 ·have i7:decide ((I.length:Int)<=10)=true:=by simp;omega
  go_wp2_with fail
  simp only[<-a2];clear a2;go_loopw [5] (λi wr=>∃ (k:Nat) (va vb:Value) (ss:List Value),k<=I.length/\i=.int .i64 k/\Q_ (AUI w2 w3 wr L k va vb ss)) (λi _=>I.length-(intOf i).toNat)
  case atStart=>exact⟨0,_,_,_,by omega,rfl,Z⟩
  case round=>
   rename World=>wk
   clear Z;obtain⟨k,va,vb,ss,hk,rfl,Z⟩:=hrel;have o3:=Z.o.o.size;have a1:=H_ (ε c6.o Z.o.o (le_ _) (by omega));by_cases hlt:k<I.length
   ·(have b5:k<L.length:=by rw[<-U.o];exact hlt);(obtain⟨l7,l8,r1,m8,k5⟩:=c8.o wk a1.o k hlt b5;have m5:=H_ k5;clear k5;obtain⟨t,ht,j9,j8,r4⟩:=e3.o k b5;have HT:=H_ ht;have g8:=H_ j9;have d5:=H_ j8;clear ht j9 j8)
    have g3:Q_ (∀ w',Below wk wk w'->Calls prog 110 #[.slice l7 L[k].length l8] w' λe m0=>e=.returned (.int .i64 (endL L[k]))/\Below w'.heap.size w' m0):=H_ λw' i3=>(zl3 t _ _ _ w' (by rw[g8.o];exact m5.o.below i3 (by omega)) d5.o (by omega) (by have:=i3.size;omega)).mono (by
     rintro e m0 ⟨rfl,h⟩;exact⟨by rw[endL,<-HT.o],h⟩)
    (have c0:=Z.o.blk.cell 0;have m7:=Z.o.blk.drew.cell 0;have⟨i9,o5⟩:k<=L.length/\k<=41:=by omega);(have b3:w2+1<=w3.heap.size:=k8;have l5:wk.drew.heap.size=wk.heap.size:=rfl;have i6:wk.drew.cell? (p_ lg k)=some (.slice l7 L[k].length l8):=m8;go_upto_region 6 with fail);go_cut [] (λwx=>∃ v9:Value,Q_ (AUE w2 w3 wx L k v9 vb ss L[k]))
    case first=>
     go_region_law (first
      | (go_simp;go_at_call 110;refine(g3.o wk.drew (z_ (B_ _ _))).mono ?_;rintro e7 w7 ⟨rfl,a6⟩;(have r7:=a6.size);(have i4:Below wk wk w7:=(z_ (B_ _ _)).trans (a6.mono (le_ _)));(have a4:=H_ (Z.o.go i4));(have c7:=a4.o.blk.cell 0);(have p7:=(a4.o.blk.al (x:=.cells #[.int .i64 (endL L[k])] 3)).cell 0);(have L7:Q_ (Sl 1 w7 (w7+1) (w7.alloc (.cells #[.int .i64 (endL L[k])] 3)) (.slice (q_ w7 0) 1 1) 1 [.int .i64 (endL L[k])]):=H_ (ς 1 3 w7 [.int .i64 (endL L[k])] 1 (by omega) rfl).sl);(have m2:=H_ ((a4.o.go (ζ w7 (.cells #[.int .i64 (endL L[k])] 3))).endsK i9));clear a6 i4)
      | (refine zig (by rfl) _ _ 22 (by rfl) 3 (0:Int) 1 8 underlying22 ω (by rfl) (by decide) (by decide) (by rfl) m2.o (by rfl) L7.o (by intro u hu;simp only[k_] at hu;subst hu;rfl) (by omega) (by omega) (by simp only[μ];omega) ?_;intro v9 w9 e6 e4 j7;obtain⟨y9,s9,rfl⟩:=η e6;(have k9:=a4.o.blk9 b3 e4);(have c9:=k9.cell 0);(have f9:=k9.free 0);(have HH:=H_ (AUI.endsE a4.o b3 i9 e6 e4 j7));clear e6 e4 j7 k9))
     all_goals (
      go_wp2_with fail
      go_meet
      exact⟨_,HH⟩)
    case rest=>
     (obtain⟨ve,HH⟩:=hcut;obtain⟨wa,rfl⟩:=ex_ wc;have r8:=HH.o.o.size;have f7:=H_ (ε c6.o HH.o.o (le_ _) (by omega));clear c0 m7 i6 l5 Z g3)
     have g9:Q_ (γ wa (wa.alloc (.cells #[] 3)).heap.size 3 (wa.alloc (.cells #[] 3)) (.slice (q_ wa 0) 0 0) (zdl L L[k] 0)/\Below wa wa (wa.alloc (.cells #[] 3))):=H_ ⟨by
      rw[μ];exact ς 1 3 wa (δ []) 0 (by omega) rfl,ζ _ _⟩
     go_wp2;go_loopw [6,7] (λr i wx=>∃ m:Nat,m<=12/\i=.int .i64 m/\Q_ (γ wa wx 3 wx r (zdl L L[k] m)/\Below wa wa wx)) (λ_ i _=>12-(intOf i).toNat)
     case atStart=>exact⟨0,by omega,rfl,g9⟩
     case round=>
      rename World=>wx
      clear g9;obtain⟨m,o7,rfl,HR⟩:=hrel;obtain⟨ra,rc,n9⟩:=η HR.o.1;subst n9;rw[ziy];have l5:=HR.o.2.size;by_cases o6:m<12
      ·(have a3:decide ((m:Int)<12)=true:=by simp;omega);(have g2:=H_ (f7.o.trans (HR.o.2.mono (by omega)));have o9:=g2.o.size;obtain⟨r9,s3,n3,m9,k6⟩:=c8.o wx g2.o k hlt b5;have h8:=H_ k6;have d4:=H_ (show (m:Int)/3=((m/3:Nat):Int)/\(16:Int)+(m:Int)%3=16+((m%3:Nat):Int) from ⟨by omega,by omega⟩);have d3:=H_ (show moveP (Τ L[k]) m=partsV t (m/3) (16+((m%3:Nat):Int)) from by rw[<-HT.o];rfl);have n7:m/3<4:=by omega);clear k6;go_wp2_with fail
       rw[d4.o.1,d4.o.2];refine(zf8 t _ _ _ wx (m/3) (16+((m%3:Nat):Int)) (by rw[g8.o];exact h8.o) d5.o (by omega) n7 (by omega) (by omega) (by omega)).mono ?_;rintro e5 w5 ⟨v5,rfl,h5,b2⟩;rw[<-d3.o]at h5;have o2:=b2.size;obtain⟨a5,l6⟩:=zgl d5.o (by omega) (α:=m/3) (c:=16+((m%3:Nat):Int)) (by omega);rw[<-d3.o]at a5 l6;have f8:=H_ a5;obtain⟨g5,c5,rfl⟩:=h5.shape;have H5:=H_ h5.sl
       have d6:=H_ (show γ wa w5 3 w5 (.slice ra m rc) (zdl L L[k] m)/\Below wa wa w5 from ⟨by
        have h:=(HR.o.1.below b2 (le_ _)).lower (le_ _) o2;rw[ziy]at h;exact h,HR.o.2.trans (b2.mono (by omega))⟩)
       (have m3:=H_ (show ((zeq L L[k] m 0:Nat):Int)=0 from rfl);clear a5 h5 b2 m9 n3 h8 d4 d3 HR;go_wp2;go_loopw [8,10] (λs i wy=>∃ j:Nat,j<=I.length/\i=.int .i64 j/\s=.int .i64 ((zeq L L[k] m j:Nat):Int)/\Q_ (Below w5 w5 wy)) (λ_ i _=>I.length-(intOf i).toNat));case atStart=>exact⟨0,by omega,rfl,by rw[m3.o],H_ (B_ _ _)⟩
       case round=>
        rename World=>wy
        obtain⟨j,hj,rfl,rfl,HY⟩:=hrel;have e8:=HY.o.size;have m1:=H_ ((f7.o.trans (d6.o.2.mono (by omega))).trans (HY.o.mono (by omega)));by_cases b9:j<I.length
        ·(have b4:j<L.length:=by rw[<-U.o];exact b9);(obtain⟨s1,s4,n4,n0,k7⟩:=c8.o wy m1.o j b9 b4;have m6:=H_ k7;have o0:=zo1 L L[k] m j;have n8:(2:Nat) ^ j<=2 ^ 9:=ah_ (by omega) (by omega);have d8:=H_ (λh:L[j]∈moveP (Τ L[k]) m=>zxt b4 h);have d9:=H_ (λh:L[j] ∉ moveP (Τ L[k]) m=>zyh b4 h);have pw:=zp5 (k:=j) (by omega);have⟨S,hS⟩:=ex_ (zeq L L[k] m j);obtain⟨K,hK⟩:∃ K:Nat,K=2 ^ j:=⟨_,rfl⟩;have⟨P,hP⟩:=ex_ (moveP (Τ L[k]) m);rw[<-hS,<-hK]at o0 d8;rw[<-hS]at d9 ⊢;rw[<-hK]at n8 pw;rw[<-hP]at d8 d9 H5 f8 l6 ⊢;have g6:=H_ ((e3.o j b4).choose_spec))
         have n6:L[j].length<=16777216:=by
          have h:=g6.o;rw[<-h.2.1,zaz];omega
         clear k7 hS hK hP g6;go_wp2_with fail
         refine(zrp _ _ _ _ _ _ P L[j] wy (H5.o.below HY.o (le_ _)) m6.o e8 (by omega) (by omega) (λy hy=>by have:=f8.o y hy;omega) n6).mono ?_;rintro e9 w9 ⟨rfl,i5⟩;have i0:=HY.tr i5 e8;clear i5 n0 n4;by_cases E:L[j]∈P
         ·(have a3:decide (L[j]∈P)=true:=by simp[E]);(have HN:=H_ (d8.o E);rw[a3];clear a3 E;go_wp2;go_roundw);(case rel=>exact⟨j+1,by omega,by go_num,by rw[HN.o];rfl,i0⟩);case measure=>simp[intOf];omega
         ·(have a3:decide (L[j]∈P)=false:=by simp[E]);(have HN:=H_ (d9.o E);rw[a3];clear a3 E;go_wp2;go_roundw);(case rel=>exact⟨j+1,by omega,by go_num,by rw[HN.o],i0⟩);case measure=>simp[intOf];omega
        ·(obtain rfl:j=I.length:=by omega);(have m4:=H_ (show zeq L L[k] m I.length=setL L L[k] m by rw[U.o];rfl);have k4:=zo1 L L[k] m I.length;have d7:=H_ (show γ wa wy 3 wy (.slice ra m rc) (zdl L L[k] m)/\Below wa wa wy from ⟨(d6.o.1.below HY.o (le_ _)).lower (le_ _) e8,d6.o.2.trans (HY.o.mono (by omega))⟩);have l0:=d7.o.2.size)
         have hown:Own 1 wa wy 3 wy (.slice ra m rc) m (δ (zdl L L[k] m)):=by
          (have h:Own 1 wa wy 3 wy (.slice ra m rc) (zdl L L[k] m).length (δ (zdl L L[k] m)):=d7.o.1)
          rwa [ziy]at h
         (have g7:=H_ hown;clear hown;rw[m4.o];go_wp2_with (at_builtin;go_loud (refine zbn wy rfl _ _ 22 rfl 3 (0:Int) 1 8 underlying22 ω rfl (by decide) (by decide) rfl g7.o 1 [.int .i64 ((setL L L[k] m:Nat):Int)] rfl rfl (by intro u hu;simp only[k_] at hu;subst hu;rfl) rfl ?c1 ?c2 ?_)));case c1=>omega
         case c2=>omega
         intro l9 b1 a8 b8 j0 b6
         have h7:=H_ (show γ wa b1 3 b1 l9 (zdl L L[k] (m+1))/\Below wa wa b1 from by
          have hz:(wy.alloc (.cells #[.int .i64 ((setL L L[k] m:Nat):Int)] 3)).heap.size=wy.heap.size+1:=μ _ _;refine⟨γ.len (show Own 1 wa b1 3 b1 l9 (m+1) (δ (zdl L L[k] (m+1))) by rw[zus,zaa];exact a8) (by rw[ziy]),?_⟩;have ha:=ζ wy (.cells #[.int .i64 ((setL L L[k] m:Nat):Int)] 3);exact ε (d7.o.2.trans (ha.mono l0)) (zb1 b8 (g7.o.alloc (.cells #[.int .i64 ((setL L L[k] m:Nat):Int)] 3)).lt) (le_ _) (by omega))
         (obtain⟨s7,p4,rfl⟩:=η a8;clear a8 b8 j0 b6;go_wp2;go_roundw);(case rel=>exact⟨m+1,by omega,by go_num,h7⟩);case measure=>simp[intOf];omega
      ·(obtain rfl:m=12:=by omega)
       have J:=H_ (AUE.row HH.o HR.o.2 (show γ wa wx 3 wx (.slice ra 12 rc) (nextL L L[k]) from by
        have h:=HR.o.1;rw[ziy]at h;exact h))
       (have r3:ss.length<=41:=by have:=HH.o.next.2.1;simp at this;omega);(have c1:=J.o.blk.cell 1;obtain⟨za,zc,rfl⟩:=η J.o.next.1;have i8:w3<=wx.heap.size:=by omega);go_wp2_with (at_builtin;go_loud (refine zbn wx rfl _ _ 119 rfl 22 () 1 24 underlying119 zab rfl (by decide) (by decide) rfl J.o.next.1 1 [.slice ra 12 rc] rfl rfl (by intro u hu;simp only[k_] at hu;subst hu;rfl) rfl ?c1 ?c2 ?_))
       case c1=>omega
       case c2=>exact i8
       intro s5 s6 a9 a7 j6 _;obtain⟨s8,p5,rfl⟩:=η a9;have f3:=J.o.blk9 b3 a7;have p6:=f3.cell 1;have p8:=f3.free 1;have g4:=H_ (AUH.nextPut b5 J.o b3 a9 a7);clear a9 a7 j6 f3;go_wp2;go_roundw
       (case rel=>exact⟨k+1,_,_,_,by omega,by go_num,g4⟩);case measure=>simp[intOf];omega
   ·(obtain rfl:k=I.length:=by omega);(obtain⟨za,zc,rfl⟩:=η (Z.o.endsK (by rw[<-U.o];exact le_ _));obtain⟨zb,b7,rfl⟩:=η Z.o.next.1;have KR:=H_ (K2.o.below a1.o (by omega));obtain⟨c0,c1⟩:=Z.o.blk.c2;have⟨d0,d1⟩:=KR.o.c2;have⟨f0,f1⟩:=KR.o.f2;go_wp2;have⟨wz,hwz⟩:=x2_ wk w (.slice za I zc) (.slice zb ss b7);have KZ:=KR.o.au2 (.slice za I zc) (.slice zb ss b7);have HO:=β.set2' w wk (.slice za I zc) (.slice zb ss b7);rw[<-hwz]at KZ HO;simp only[<-hwz];obtain⟨q0,q1⟩:=KZ.c2;refine d_ (v:=.agg #[.slice za I zc,.slice zb ss b7]) (by simp[results,results111,go_sem,q0,q1]) rfl (ι.mk _ rfl ⟨?_,ε (f6.o.trans (a1.o.mono (by omega))) HO (le_ _) (by omega)⟩);have e2:L.take I.length=L:=by rw[U.o,Y_]);have n1:=Z.o.ends;have n2:=Z.o.next;rw[e2]at n1 n2;rw[f4.o (by rw[<-U.o];exact i2)];exact⟨_,_,ss,rfl,(n1.outside HO (.inr (by omega))).lower (by omega) HO.size,(n2.outside HO (.inr (by omega))).lower (by omega) HO.size⟩
 ·have i7:decide ((I.length:Int)<=10)=false:=by simp;omega
  have o8:decide ((0:Int)<(I.length:Int))=true:=by simp;omega
  go_wp2_with fail
  simp only[<-a2];clear a2;have HW:=H_ (B_ w3 w3);go_loopw [5] (λi wr=>i=.int .i64 0/\Q_ (Below w3 w3 wr)) (λi _=>0)
  case atStart=>exact⟨rfl,HW⟩
  case round=>
   rename World=>wk
   obtain⟨rfl,h9⟩:=hrel;have a1:=c6.tr h9.o (by omega);have o3:=a1.o.size;have KR:=H_ (K2.o.below a1.o (by omega));have KI:=H_ (Z.o.blk.below h9.o Z.o.blk.lt);have⟨c0,c1⟩:=KI.o.c2;have⟨d0,d1⟩:=KR.o.c2;have⟨f0,f1⟩:=KR.o.f2;go_wp2;have⟨wz,hwz⟩:=x2_ wk w () ();have KZ:=KR.o.au2 () ();have HO:=β.set2' w wk () ();rw[<-hwz]at KZ HO;simp only[<-hwz];obtain⟨q0,q1⟩:=KZ.c2;refine d_ (v:=.agg #[(),()]) (by simp[results,results111,go_sem,q0,q1]) rfl (ι.mk _ rfl ⟨?_,ε (f6.o.trans (a1.o.mono (by omega))) HO (le_ _) (by omega)⟩);rw[f5.o (by rw[<-U.o];exact i2)];exact AuW.nils _ _ _
theorem zh0(lo hi:Nat)(v:Value)(a:Au)(set m:Nat)(w:World)(h:AuS lo hi w v a)(hh:hi<=w)(ho:zb4 a)(hs:set<1048576)(hm:m<12):
  c_ 114 #[v,.int .i64 (set:Nat),.int .i64 (m:Nat)] w ((stepU a set m:Nat):Int):=by
 obtain⟨va,vb,rfl,hE,hN⟩:=h;have⟨w0,J⟩:=xa_ w #[va,vb] 123;have HB:Q_ (Below w w w0):=by rw[J];exact H_ (ζ _ _)
 have K1:Blk w (.cells #[va,vb] 123) w0:=by rw[J];exact κ w _
 obtain⟨c0,c1⟩:=K1.c2;have HE:=H_ (hE.below HB.o hh);have HN:=H_ (hN.below HB.o hh);obtain⟨ea,ec,rfl,_,_⟩:=π hE;obtain⟨na,nc,a4,_,_⟩:=hN.shape;have HO:=H_ ho;have a8:=ho.le;have a1:=ho.len;rw[a1]at a4;subst a4;have⟨R,hR⟩:=ex_ (a.next.map λr:List Int=>r.getD m 0);have a3:=H_ (show stepU a set m=imgT R set a.ends.length by rw[hR];rfl)
 have a7:Q_ (∀ k,imgT R set k<1024):=H_ λk=>imgT_lt (n:=10) (λs hs=>by
  subst hR;simp only[X_]at hs;obtain⟨h1,h2⟩:=ho.rows _ (u_ hs);simp only[bq_,List.getD];rw[l_ (by omega)];exact(h2 _ (u_ _)).2) set k
 have a6:Q_ (∀ k (h:k<a.next.length),∃ E:m<a.next[k].length,∃ x:Nat,a.next[k][m]=(x:Int)/\x<1024/\(R.getD k 0).toNat=x):=H_ λk hk=>by
  obtain⟨h1,h2⟩:=ho.rows _ (u_ hk);have E:m<a.next[k].length:=by omega
  obtain⟨h3,h4⟩:=h2 _ (u_ E);refine⟨E,a.next[k][m].toNat,by omega,h4,?_⟩;subst hR;simp[List.getD,l_ hk,l_ E]
 have⟨n,hn⟩:=ex_ a.ends.length;have a5:=H_ (show a.next.length=n by rw[hn,a1]);rw[<-hn]at c0 c1 J a3 a8 ⊢;clear hE hN ho K1 hR a1 hn
 go_enter func114,ntmps114
 go_wp2_with fail
 simp only[<-J];clear J
 go_loop [7,8] (λo i=>∃ k:Nat,k<=n/\i=.int .i64 k/\o=.int .i64 ((imgT R set k:Nat):Int)) (λ_ i=>n-(intOf i).toNat)
 case atStart=>exact⟨0,by omega,rfl,rfl⟩
 case round=>
  obtain⟨k,hk,rfl,rfl⟩:=hrel;by_cases hlt:k<n
  ·have Z:k<a.next.length:=by rw[a5.o];exact hlt
   obtain⟨b,off,u,rfl,_,_,_,hcell,hu⟩:=HN.o.get k Z;obtain⟨E,x,hx,b1,hg⟩:=a6.o k Z;obtain⟨ua,uc,rfl,_,_⟩:=π hu;obtain⟨b2,a9,rfl,_,_,_,K⟩:=zc8 hu m E;rw[hx]at K;have a2:a.next[k].length=12:=(HO.o.rows _ (u_ Z)).1;rw[a2]at hcell;have b0:=a7.o k;go_wp2_with fail
   refine(zgs set k (by omega) (by omega) _).mono ?_;rintro e _ ⟨rfl,rfl⟩;cases hb:set.testBit k
   ·(have I:zaw set k=0:=by simp[zaw,hb]);rw[I];have U:Q_ (imgT R set (k+1)=imgT R set k):=H_ (by rw[imgT,hb];simp);clear hb hx hg hu a2 I;go_wp2;go_round
    (case rel=>exact⟨k+1,by omega,by go_num,by rw[U.o]⟩);case measure=>simp[intOf];omega
   ·(have I:zaw set k=1:=by simp[zaw,hb]);rw[I];have U:Q_ (imgT R set (k+1)=imgT R set k ||| x):=H_ (by rw[imgT,hb,hg];simp);clear hb hx hg hu a2 I;go_wp2_with fail
    refine(zmi (imgT R set k) x (by omega) (by omega) _).mono ?_;rintro e _ ⟨rfl,rfl⟩;go_wp2;go_round
    (case rel=>exact⟨k+1,by omega,by go_num,by rw[U.o]⟩);case measure=>simp[intOf];omega
  ·obtain rfl:k=n:=by omega
   go_wp2;go_ret;exact⟨by rw[a3.o];rfl,HB.o⟩
theorem zjm(lo hi:Nat)(v:Value)(a:Au)(set:Nat)(w:World)(h:AuS lo hi w v a)(hh:hi<=w)(ho:zb4 a)(hs:set<1048576):
  c_ 112 #[v,.int .i64 (set:Nat)] w ((endsU a set:Nat):Int):=by
 obtain⟨va,vb,rfl,hE,hN⟩:=h;have⟨w0,I⟩:=xa_ w #[va,vb] 123;have HB:Q_ (Below w w w0):=by rw[I];exact H_ (ζ _ _)
 have K1:Blk w (.cells #[va,vb] 123) w0:=by rw[I];exact κ w _
 have c0:=K1.cell 0;have HE:=H_ (hE.below HB.o hh);obtain⟨ea,ec,rfl,_,_⟩:=π hE;have a3:=ho.le;have⟨R,Z⟩:=ex_ a.ends;have U:=H_ (show endsU a set=imgT R set a.ends.length by rw[Z];rfl);have a2:Q_ (∀ k,imgT R set k<16):=H_ λk=>imgT_lt (n:=4) (λs hs=>by subst Z;exact(ho.ends _ (u_ hs)).2) set k
 have a1:Q_ (∀ k (h:k<R.length),∃ x:Nat,R[k]=(x:Int)/\x<16/\(R.getD k 0).toNat=x):=H_ λk hk=>by
  subst Z;obtain⟨h3,h4⟩:=ho.ends _ (u_ hk);exact⟨a.ends[k].toNat,by omega,h4,by simp[List.getD,l_ hk]⟩
 rw[<-Z]at HE c0 I U a3 ⊢;clear hE hN ho K1 Z
 go_enter func112,ntmps112
 go_wp2_with fail
 simp only[<-I];clear I
 go_loop [5,6] (λo i=>∃ k:Nat,k<=R.length/\i=.int .i64 k/\o=.int .i64 ((imgT R set k:Nat):Int)) (λ_ i=>R.length-(intOf i).toNat)
 case atStart=>exact⟨0,by omega,rfl,rfl⟩
 case round=>
  obtain⟨k,hk,rfl,rfl⟩:=hrel;by_cases hlt:k<R.length
  ·obtain⟨x,hx,a6,hg⟩:=a1.o k hlt
   obtain⟨b2,a4,rfl,_,_,_,J⟩:=zc8 HE.o k hlt;rw[hx]at J;have a5:=a2.o k;go_wp2_with fail
   refine(zgs set k (by omega) (by omega) _).mono ?_;rintro e _ ⟨rfl,rfl⟩;cases hb:set.testBit k
   ·(have E:zaw set k=0:=by simp[zaw,hb]);rw[E];have K:Q_ (imgT R set (k+1)=imgT R set k):=H_ (by rw[imgT,hb];simp);clear hb hx hg E;go_wp2;go_round
    (case rel=>exact⟨k+1,by omega,by go_num,by rw[K.o]⟩);case measure=>simp[intOf];omega
   ·(have E:zaw set k=1:=by simp[zaw,hb]);rw[E];have K:Q_ (imgT R set (k+1)=imgT R set k ||| x):=H_ (by rw[imgT,hb,hg];simp);clear hb hx hg E;go_wp2_with fail
    refine(zmi (imgT R set k) x (by omega) (by omega) _).mono ?_;rintro e _ ⟨rfl,rfl⟩;go_wp2;go_round
    (case rel=>exact⟨k+1,by omega,by go_num,by rw[K.o]⟩);case measure=>simp[intOf];omega
  ·obtain rfl:k=R.length:=by omega
   go_wp2;go_ret;exact⟨by rw[U.o];rfl,HB.o⟩
theorem zr6 {x:Nat × Nat} {l:List (Nat × Nat)}(hk:k<l.length)(h:x ∉ l.take k)(he:l[k]≠x):x ∉ l.take (k+1):=by
 rw[F_ hk,E_,k_];rintro(h1|h1)
 ·exact h h1
 ·exact he h1.symm
theorem zip(lo hi:Nat)(v:Value)(ps:List (Nat × Nat))(x y:Nat)(w:World)(hl:zbi lo hi w v (prL ps))(hh:hi<=w)(hm:ps.length<=4194304):
  c_ 115 #[v,.int .i64 (x:Nat),.int .i64 (y:Nat)] w (decide ((x,y)∈ps)):=by
 have HL:=H_ hl;obtain⟨a,cap,rfl,_,_⟩:=hl.shape;rw[zfx]at HL ⊢;clear hl
 go_enter func115,ntmps115
 go_wp2;go_loopw [7] (λi wr=>∃ k:Nat,k<=ps.length/\i=.int .i64 k/\Q_ (Below w w wr)/\Q_ ((x,y) ∉ ps.take k)) (λi _=>ps.length-(intOf i).toNat)
 case atStart=>exact⟨0,by omega,rfl,H_ (B_ _ _),H_ (by simp)⟩
 case round=>
  rename World=>wr
  obtain⟨k,hk,rfl,HB,HN⟩:=hrel;have a9:=HB.o.size;by_cases hlt:k<ps.length
  ·have a1:k<(prL ps).length:=by rw[zfx];exact hlt
   obtain⟨b5,a3,u5,rfl,_,_,a6,a2,I⟩:=(HL.o.below HB.o hh).get k a1;rw[znl a1 hlt]at I;obtain⟨ua,uc,rfl,_,_⟩:=π I;obtain⟨b6,a4,rfl,_,_,a7,K⟩:=zc8 I 0 (by simp);obtain⟨b7,a5,Z,_,_,a8,U⟩:=zc8 I 1 (by simp);injection Z with Z;injection Z with Z e8;subst Z e8;simp only[bh_,de_,I_,an_,U_,cj_]at a2 K U;obtain⟨p,q,E⟩:∃ p q,ps[k]=(p,q):=⟨_,_,rfl⟩;rw[E]at K U;simp only at K U;clear I;by_cases h1:p=x
   ·subst h1
    by_cases h2:q=y
    ·subst h2
     have HY:=H_ (show true=decide ((p,q)∈ps) by
      symm
      rw[t_,<-E];exact u_ hlt)
     clear E;go_wp2;go_ret;exact⟨χ HY.o,HB.o⟩
    ·(have J:=H_ (zr6 hlt HN.o (λh=>by rw[E] at h;injection h with _ h;exact h2 h)));(have g1:((q:Int)==(y:Int))=false:=by simp;omega);(have g2:¬(q:Int)=(y:Int):=by omega);clear E h2;go_wp2;go_roundw
     (case rel=>exact⟨k+1,by omega,by go_num,HB,J⟩);case measure=>simp[intOf];omega
   ·(have J:=H_ (zr6 hlt HN.o (λh=>by rw[E] at h;injection h with h _;exact h1 h)));(have g1:((p:Int)==(x:Int))=false:=by simp;omega);(have g2:¬(p:Int)=(x:Int):=by omega);clear E h1;go_wp2;go_roundw
    (case rel=>exact⟨k+1,by omega,by go_num,HB,J⟩);case measure=>simp[intOf];omega
  ·obtain rfl:k=ps.length:=by omega
   have HY:=H_ (show false=decide ((x,y)∈ps) by
    have h:=HN.o;rw[Y_]at h;simp[h])
   go_wp2;go_ret;exact⟨χ HY.o,HB.o⟩
theorem zou(a b:Au)(o:List (Nat × Nat))(p:Nat × Nat):∀ k,(prow a b o p k).length<=o.length+k
 | 0=>by simp[prow]
 | k+1=>by
  have h:=zou a b o p k;unfold prow
  split
  ·omega
  ·simp;omega
theorem zo5 {a b:Au}(ha:zb4 a)(hb:zb4 b){o:List (Nat × Nat)}{p:Nat × Nat}(h:∀ q∈o,q.1<1024/\q.2<1024):∀ k,k<=12->∀ q∈prow a b o p k,q.1<1024/\q.2<1024
 | 0,_=>h
 | k+1,hk=>by
  have E:=zo5 ha hb (p:=p) h k (by omega);intro q hq;unfold prow at hq
  split at hq
  ·exact E q hq
  ·rcases E_.1 hq with hq|hq
   ·exact E q hq
   ·simp only[k_]at hq
    subst hq;exact⟨ha.step _ (by omega),hb.step _ (by omega)⟩
theorem zx4 {a b:Au} {o:List (Nat × Nat)} {p:Nat × Nat} {j:Nat}(hk:k<o.length):∃ h:k<(prow a b o p j).length,(prow a b o p j)[k]=o[k]:=by
 obtain⟨r,hr⟩:=zki a b o p j;have h2:k<(prow a b o p j).length:=by rw[hr,n_];omega
 exact⟨h2,by rw[c6_ hr,aq_ hk]⟩
theorem zz5(ps:List (Nat × Nat))(x y:Nat):prL (ps++[(x,y)])=prL ps++[[(x:Int),(y:Int)]]:=by simp[prL]
noncomputable def zb2(e f:List Int):List (Nat × Nat):=(pairsV e f).getD []
theorem znx(h:(autV e).ends=[]\/(autV f).ends=[]):zb2 e f=[]:=by unfold zb2 pairsV;rw[x_ h];rfl
theorem zzt(h:¬((autV e).ends=[]\/(autV f).ends=[])):zb2 e f=(pairsA (autV e) (autV f)).getD []:=by unfold zb2 pairsV;rw[m_ h]
structure AuB(w0 w:World)(ga gb:Nat)(va vb vc vd:Value)(a b:Au):Prop where
 one:Blk ga (.cells #[va,vb] 123) w
 two:Blk gb (.cells #[vc,vd] 123) w
 fst:AuS w0 w w (.agg #[va,vb]) a
 snd:AuS w0 w w (.agg #[vc,vd]) b
theorem AuB.go {w0:World} {ga gb:Nat} {va vb vc vd:Value} {a b:Au}(h:AuB w0 w ga gb va vb vc vd a b)(hb:Below w w w'):AuB w0 w' ga gb va vb vc vd a b:=
 ⟨h.one.below hb h.one.lt,h.two.below hb h.two.lt,(h.fst.below hb (le_ _)).wide (le_ _) hb.size,(h.snd.below hb (le_ _)).wide (le_ _) hb.size⟩
def zcl(lo:Nat)(w:World)(v:Value)(ps:List (Nat × Nat)):Prop:=Ζ lo w v (prL ps)
theorem zcl.shape {ps:List (Nat × Nat)}(h:zcl lo w v ps):∃ g cap,v=.slice (q_ g 0) ps cap:=by
 obtain⟨g,cap,e⟩:=Ζ.shape h;exact⟨g,cap,by rw[e,zfx]⟩
theorem zcl.go {ps:List (Nat × Nat)}(h:zcl lo w v ps)(hb:Below w w w'):zcl lo w' v ps:=Ζ.go h hb
theorem zcl.at {cap g:Nat} {ps:List (Nat × Nat)}(h:zcl lo w (.slice (q_ g 0) n cap) ps)(k:Nat)(hk:k<ps.length)(x y:Nat)(a2:ps[k]=(x,y)):
  ∃ J c2,g<w/\J<w.heap.size/\w.cell? (p_ g k)=some (.slice (q_ J 0) 2 c2)/\w.cell? (p_ J 0)=some (.int .i64 (x:Nat))/\w.cell? (p_ J 1)=some (.int .i64 (y:Nat)):=by
 have K:k<(prL ps).length:=by rw[zfx];exact hk
 obtain⟨u,hg,hc,hu⟩:=Ζ.at h k K;rw[znl K hk,a2]at hu;obtain⟨J,c2,rfl⟩:=zik hu (by simp[δ]);obtain⟨b6,a3,E,_,_,U,Z⟩:=zc8 hu.sl 0 (by simp);obtain⟨b7,a4,I,_,_,a5,a1⟩:=zc8 hu.sl 1 (by simp);injection E with E;injection E with E f6;injection I with I;injection I with I f7;subst E f6 I f7;exact⟨_,c2,hg,U,hc,by simpa using Z,by simpa using a1⟩
theorem zp7(lo hi lo' hi':Nat)(ve vf:Value)(e f:List Int)(w:World)(hx:SlI lo hi w ve e)(hy:SlI lo' hi' w vf f)(hh:hi<=w)(m5:hi'<=w)(hm:e.length<=1048576)(m8:f.length<=1048576):
  Calls prog 106 #[ve,vf] w (ι λv w'=>zcl w w' v (zb2 e f)/\Below w w w'):=by
 have HX:=H_ hx;have HY:=H_ hy;have g6:=H_ (zbo e);have g8:=H_ (zbo f);have d3:=H_ (B_ w w);clear hx hy
 go_enter func106,ntmps106
 go_wp2_with fail
 refine(zhq _ _ _ e w (HX.o.below d3.o hh) (by have:=d3.o.size;omega) hm).mono ?_;rintro e1 w1 ⟨v1,rfl,⟨va,vb,ss,rfl,a6,a7⟩,U⟩;have o1:=d3.o.size;have o7:=U.size;obtain⟨a1,c1,rfl⟩:=η a6;obtain⟨a2,a5,rfl⟩:=η a7.1;have⟨w2,c7⟩:=xa_ w1 #[.slice a1 (autV e).ends.length c1,.slice a2 ss a5] 123;obtain⟨hb2,K2,n7⟩:=Η c7;have b3:=H_ ((d3.o.trans (U.mono (by omega))).trans (hb2.mono (by omega)));have b1:=H_ (show AuS w w2 w2 (.agg #[.slice a1 (autV e).ends.length c1,.slice a2 ss a5]) (autV e)/\Blk w1 (.cells #[.slice a1 (autV e).ends.length c1,.slice a2 ss a5] 123) w2 from ⟨zh4 (zhp ⟨_,_,rfl,a6.sl,a7.sl⟩ hb2 (le_ _)) (by omega) (by omega),K2⟩);clear U hb2 K2 a6 a7;go_wp2_with fail
 simp only[<-c7];clear c7;refine(zhq _ _ _ f w2 (HY.o.below b3.o m5) (by have:=b3.o.size;omega) m8).mono ?_;rintro e3 w3 ⟨v3,rfl,⟨vc,vd,tt,rfl,a6,a7⟩,U⟩;have o8:=U.size;obtain⟨a3,c3,rfl⟩:=η a6;obtain⟨a4,c4,rfl⟩:=η a7.1;have⟨w4,c8⟩:=xa_ w3 #[.slice a3 (autV f).ends.length c3,.slice a4 tt c4] 123;obtain⟨hb2,K2,n8⟩:=Η c8;have E:=H_ ((b3.o.trans (U.mono (by omega))).trans (hb2.mono (by omega)));have⟨n1,f9⟩:=ex_ ((autV e).ends.length);have⟨n2,g5⟩:=ex_ ((autV f).ends.length);have h8:=H_ f9;have h9:=H_ g5
 have b0:Q_ (AuB w w4 w1 w3 (.slice a1 n1 c1) (.slice a2 ss a5) (.slice a3 n2 c3) (.slice a4 tt c4) (autV e) (autV f)):=by
  rw[f9,g5];exact H_ ⟨(b1.o.2.below U (by omega)).below hb2 (by omega),K2,((b1.o.1.below U (by omega)).below hb2 (by omega)).wide (le_ _) (by omega),zh4 (zhp ⟨_,_,rfl,a6.sl,a7.sl⟩ hb2 (le_ _)) (by omega) (by omega)⟩
 clear U hb2 K2 a6 a7 b1 f9 g5;go_upto_region 3 with fail
 simp only[<-c8];clear c8;have ca:=b0.o.one.cell 0;have cb:=b0.o.two.cell 0;have o4:=b0.o.one.lt;have o5:=b0.o.two.lt;by_cases h0:n1=0\/n2=0
 ·have HE:=H_ (znx (e:=e) (f:=f) (h0.imp (λh=>A_ (h8.o.symm.trans h)) (λh=>A_ (h9.o.symm.trans h))))
  cases g1:decide ((n1:Int)=0)<;>cases g2:decide ((n2:Int)=0)
  ·exfalso
   have:=bc_ g1;have:=bc_ g2;omega
  all_goals (
   have g3:((n1:Int)==0)=decide ((n1:Int)=0):=rfl;have g4:((n2:Int)==0)=decide ((n2:Int)=0):=rfl;rw[g1]at g3;rw[g2]at g4;go_wp2;go_ret;exact ι.mk _ rfl ⟨by rw[HE.o];exact zfj _ _ (by have:=E.o.size;omega),E.o.trans ((ζ _ _).mono E.o.size)⟩)
 ·have g1:((n1:Int)==0)=false:=by simp;omega
  have g2:((n2:Int)==0)=false:=by simp;omega
  have HE:=H_ (zzt (e:=e) (f:=f) (λh=>h0 (h.imp (λh=>by rw[h8.o,h];rfl) (λh=>by rw[h9.o,h];rfl))));clear h0;have⟨w5,b9⟩:=xa_ w4 #[(1:Int),(1:Int)] 3;have⟨w6,a9⟩:=xa_ w5 #[.slice (q_ w4 0) 2 2] 22
  have HI:=H_ (show zcl w4 w6 (.slice (q_ (w4+1) 0) 1 1) [(1,1)]/\Below w4 w4 w6 from by
   have j8:w5=w4.heap.size+1:=by rw[b9];simp
   have n3:w6=w5.heap.size+1:=by rw[a9];simp
   have m2:Below w4 w4 w5:=by rw[b9];exact ζ _ _
   have m3:Below w5 w5 w6:=by rw[a9];exact ζ _ _
   refine⟨?_,m2.trans (m3.mono (by omega))⟩
   have hr:γ w4 w5 3 w5 (.slice (q_ w4 0) 2 2) [1,1]:=by
    rw[j8,b9];exact ς 1 3 w4 (δ [1,1]) 2 (by omega) rfl
   have h:=LLs.one hr (by omega);rw[<-a9,<-n3,j8]at h;exact⟨_,1,[_],rfl,h⟩)
  rw[b9]at a9;clear b9;go_wp2_with fail
  simp only[<-a9];clear a9;go_loopw [7,8] (λv i wr=>∃ (k:Nat) (o:List (Nat × Nat)),k<=o.length/\o.length<=100/\i=.int .i64 k/\Q_ (zcl w4 wr v o/\Below w4 w4 wr/\PgI (autV e) (autV f) k o/\∀ q∈o,q.1<1024/\q.2<1024)) (λ_ i _=>200-(intOf i).toNat)
  case atStart=>exact⟨0,[(1,1)],by simp,by simp,rfl,H_ ⟨HI.o.1,HI.o.2,rfl,by simp⟩⟩
  case round=>
   rename World=>wr
   clear HI;obtain⟨k,o,hk,i7,rfl,HQ⟩:=hrel;obtain⟨og,oc,m9⟩:=HQ.o.1.shape;subst m9;have b4:k<=100:=by omega
   by_cases hlt:k<o.length
   ·(obtain⟨x,y,e4⟩:∃ x y,o[k]=(x,y):=⟨_,_,rfl⟩)
    obtain⟨n9,o0⟩:x<1024/\y<1024:=by
     have:=HQ.o.2.2.2 _ (u_ hlt);rw[e4]at this;exact this
    (have k9:=H_ (show o.getD k (0,0)=(x,y) from by rw[List.getD,l_ hlt];exact e4))
    have i3:=H_ (show ∀ m,∃ h:k<(prow (autV e) (autV f) o (x,y) m).length,(prow (autV e) (autV f) o (x,y) m)[k]=(x,y) from λm=>by
     obtain⟨h1,h2⟩:=zx4 (a:=autV e) (b:=autV f) (p:=(x,y)) (j:=m) hlt;exact⟨h1,h2.trans e4⟩)
    (have l0:=H_ (zou (autV e) (autV f) o (x,y));have l5:=H_ (zo5 g6.o g8.o (o:=o) (p:=(x,y)) HQ.o.2.2.2);have i2:=H_ HQ.o.2.2.1;have i5:=H_ (show zcl w4 wr (.slice (q_ og 0) o oc) (prow (autV e) (autV f) o (x,y) 0)/\Below w4 w4 wr from ⟨HQ.o.1,HQ.o.2.1⟩);clear e4 HQ;go_wp2;go_loopw [7,9] (λv i wx=>∃ m:Nat,m<=12/\i=.int .i64 m/\Q_ (zcl w4 wx v (prow (autV e) (autV f) o (x,y) m)/\Below w4 w4 wx)) (λ_ i _=>12-(intOf i).toNat));case atStart=>exact⟨0,by omega,rfl,i5⟩
    case round=>
     clear i5
     rename World=>wx
     (obtain⟨m,n6,rfl,HA⟩:=hrel;obtain⟨pg,pc,c9,n0,hq⟩:=HA.o.1;subst n0;have K:=H_ (hq.2.1.trans (zfx _)))
     have m7:c9.length<=112:=by
      rw[K.o];have:=l0.o m;omega
     have HQ:=H_ hq;clear hq;by_cases e6:m<12
     ·(obtain⟨j7,m6⟩:=i3.o m);(have o6:k<c9.length:=by rw[K.o];exact j7);(have n4:=HA.o.2.size;obtain⟨g2,c2,hg,f8,i9,j9,k4⟩:=HA.o.1.at k j7 x y m6;have I:=H_ (b0.o.go HA.o.2);have e2:∀ w',Below wx wx w'->w'.cell? (p_ w1 0)=some (.slice a1 n1 c1)/\w'.cell? (p_ w1 1)=some (.slice a2 ss a5)/\w'.cell? (p_ w3 0)=some (.slice a3 n2 c3)/\w'.cell? (p_ w3 1)=some (.slice a4 tt c4)/\w'.cell? (p_ pg k)=some (.slice (q_ g2 0) 2 c2)/\w'.cell? (p_ g2 0)=some (.int .i64 (x:Nat))/\w'.cell? (p_ g2 1)=some (.int .i64 (y:Nat)):=λw' hb=>⟨(I.o.go hb).one.cell 0,(I.o.go hb).one.cell 1,(I.o.go hb).two.cell 0,(I.o.go hb).two.cell 1,(hb.cell (p:=p_ pg k) hg).trans i9,(hb.cell (p:=p_ g2 0) f8).trans j9,(hb.cell (p:=p_ g2 1) f8).trans k4⟩);(have Z:Below wx wx wx.drew:=z_ (B_ _ _);have hS:=e2 wx (B_ _ _);have m0:=e2 _ Z;have d6:=H_ e2;have m4:wx.drew.heap.size=wx.heap.size:=rfl;clear e2 i9 j9 k4;go_upto_region 12 with fail)
      go_region_held3 (λw'=>w'.cell? (p_ w1 0)=some (.slice a1 n1 c1)/\w'.cell? (p_ w1 1)=some (.slice a2 ss a5)/\w'.cell? (p_ w3 0)=some (.slice a3 n2 c3)/\w'.cell? (p_ w3 1)=some (.slice a4 tt c4)/\w'.cell? (p_ pg k)=some (.slice (q_ g2 0) 2 c2)/\w'.cell? (p_ g2 0)=some (.int .i64 (x:Nat))/\w'.cell? (p_ g2 1)=some (.int .i64 (y:Nat))) (first | with_reducible assumption | go_keep) (first
       | (go_at_call 114;refine(zh0 _ _ _ (autV e) x m wx.drew (I.o.fst.below Z (le_ _)) (by omega) g6.o (by omega) e6).mono ?_;rintro e7 w7 ⟨rfl,a8⟩;(have o9:=a8.size);(have f6:=Z.trans (a8.mono (by omega)));(have l8:=d6.o _ f6);(have g7:=H_ f6);clear a8 f6))
      (have d9:Below wx wx w7.drew:=z_ g7.o;have m1:=d6.o _ d9;have j0:w7.drew.heap.size=w7.heap.size:=rfl;clear m0 Z hS;go_upto_region 13 with fail)
      go_region_held3 (λw'=>w'.cell? (p_ w1 0)=some (.slice a1 n1 c1)/\w'.cell? (p_ w1 1)=some (.slice a2 ss a5)/\w'.cell? (p_ w3 0)=some (.slice a3 n2 c3)/\w'.cell? (p_ w3 1)=some (.slice a4 tt c4)/\w'.cell? (p_ pg k)=some (.slice (q_ g2 0) 2 c2)/\w'.cell? (p_ g2 0)=some (.int .i64 (x:Nat))/\w'.cell? (p_ g2 1)=some (.int .i64 (y:Nat))) (first | with_reducible assumption | go_keep) (first
       | (go_at_call 114;refine(zh0 _ _ _ (autV f) y m w7.drew (I.o.snd.below d9 (le_ _)) (by omega) g8.o (by omega) e6).mono ?_;rintro e8 w8 ⟨rfl,a8⟩;(have p2:=a8.size);(have f7:=d9.trans (a8.mono (by omega)));(have l9:=d6.o _ f7);(have d4:=H_ f7);clear a8 f7))
      clear l8 l9 m1 d9 m4 j0 hg f8;have d7:=H_ ((HQ.o.below d4.o (le_ _)).lower (le_ _) d4.o.size);have b2:=H_ (HA.o.2.trans (d4.o.mono n4));have f3:Q_ (nextP (autV e) (autV f) (x,y) m=(stepU (autV e) x m,stepU (autV f) y m)):=H_ rfl;have⟨X,hX⟩:=ex_ (stepU (autV e) x m);have⟨Y,hY⟩:=ex_ (stepU (autV f) y m);have⟨q,hq⟩:=ex_ (prow (autV e) (autV f) o (x,y) m);have g9:=H_ (zsc (a:=autV e) (b:=autV f) (o:=o) (p:=(x,y)) (k:=m));have e5:=H_ (zph (a:=autV e) (b:=autV f) (o:=o) (p:=(x,y)) (k:=m));rw[<-hX,<-hY]at f3;rw[f3.o,<-hq]at g9 e5;rw[<-hq]at d7 K;rw[<-hX,<-hY];clear hX hY hq HQ HA f3;have k5:=b2.o.size;go_wp2_with fail
      refine(zip _ _ _ q X Y w8 d7.o.sl (le_ _) (by rw[<-K.o];omega)).mono ?_;rintro e9 w9 ⟨rfl,d8⟩;have n5:=d8.size;have f5:=H_ ((d7.o.below d8 (le_ _)).lower (le_ _) n5);have d5:=b2.tr d8 k5;clear d8 d7 b2 g7 d4 I d6;by_cases J:(X,Y)∈q
      ·(have b5:decide ((X,Y)∈q)=true:=by simp[J]);(have HN:=H_ (g9.o J);rw[b5];clear b5 J;go_wp2;go_roundw);(case rel=>exact⟨m+1,by omega,by go_num,H_ ⟨by rw[HN.o];exact⟨_,_,_,rfl,f5.o⟩,d5.o⟩⟩);case measure=>simp[intOf];omega
      ·(have b5:decide ((X,Y)∈q)=false:=by simp[J]);(have HN:=H_ (e5.o J);rw[b5];clear b5 J;have⟨wA,c6⟩:=xa_ w9 #[.int .i64 (X:Nat),.int .i64 (Y:Nat)] 3;have Z:Below w9 w9 wA:=by rw[c6];exact ζ _ _);(have k6:wA=w9.heap.size+1:=by rw[c6];simp);(have o2:=d5.o.size;have i4:=H_ ((f5.o.below Z (le_ _)).lower (le_ _) (show w9<=wA.heap.size by omega)))
       have l6:Q_ (γ w4 wA 3 wA (.slice (q_ w9 0) 2 2) [(X:Int),(Y:Int)]):=H_ (by
        have h:=ς 1 3 w9 (δ [(X:Int),(Y:Int)]) 2 (by omega) rfl;rw[k6,c6];exact γ.lower (show γ w9 (w9+1) 3 _ _ [(X:Int),(Y:Int)] from h) (by omega) (le_ _))
       (have k7:=d5.tr Z (by omega);have i6:=H_ c6;have l7:=H_ k6;clear c6 Z f5 d5;go_wp2_with (at_builtin;go_loud (refine zbn wA rfl _ _ 119 rfl 22 () 1 24 underlying119 zab rfl (by decide) (by decide) rfl i4.o.1 1 [.slice (q_ w9 0) 2 2] (by rw[l7.o];rfl) rfl (by intro u hu;simp only[k_] at hu;subst hu;rfl) (by rw[i6.o]) ?c1 ?c2 ?_)));case c1=>omega
       case c2=>omega
       intro p3 wB b8 b6 _ _;rw[<-i6.o]at b6;have HJ:=H_ (Ζ.app i4.o l6.o b8 b6);have k8:=H_ (ε k7.o HJ.o.2 (le_ _) (by omega));obtain⟨p4,o3,rfl⟩:=η b8;clear b8 b6;go_wp2;go_roundw
       (case rel=>exact⟨m+1,by omega,by go_num,H_ ⟨by rw[HN.o,zcl,zz5];exact HJ.o.1,k8.o⟩⟩);case measure=>simp[intOf];omega
     ·(obtain rfl:m=12:=by omega)
      have j6:k+1<=c9.length:=by
       obtain⟨h,_⟩:=i3.o 12;rw[K.o];omega
      have f4:=H_ (l5.o 12 (le_ _));have i0:=H_ (λh=>PgI.next i2.o hlt b4 h);have h7:=H_ (λh=>PgI.many i2.o hlt b4 h);rw[k9.o]at i0 h7;by_cases i8:100<c9.length
      ·(have f2:=H_ (show zb2 e f=[] from by rw[HE.o,h7.o (by rw[<-K.o];exact i8)];rfl));go_wp2;go_ret;exact ι.mk _ rfl ⟨by rw[f2.o];exact zfj _ _ (by have:=E.o.size;have:=HA.o.2.size;omega),(E.o.trans (HA.o.2.mono E.o.size)).trans ((ζ _ _).mono (by have:=E.o.size;have:=HA.o.2.size;omega))⟩
      ·(have b7:c9.length<=100:=by omega);go_wp2;go_roundw
       (case rel=>exact⟨k+1,_,by rw[<-K.o];exact j6,by rw[<-K.o];exact b7,by go_num,H_ ⟨⟨_,_,_,rfl,HQ.o⟩,HA.o.2,i0.o (by rw[<-K.o];exact b7),f4.o⟩⟩);case measure=>simp[intOf];omega
   ·(obtain rfl:k=o.length:=by omega);have f2:=H_ (show zb2 e f=o from by rw[HE.o,PgI.done HQ.o.2.2.1 i7];rfl);go_wp2;go_ret;exact ι.mk _ rfl ⟨by rw[f2.o];exact Ζ.low HQ.o.1 E.o.size,E.o.trans (HQ.o.2.1.mono E.o.size)⟩
structure DLv(n:Nat)(seen:List (Nat × Nat))(ws:List Way2):Prop where
 nodup:(seen++ws.map (·.1)).Nodup
 small:∀ p∈seen++ws.map (·.1),p.1<1024/\p.2<1024
 len:∀ x∈ws,x.2.length=n
theorem DLv.few {seen:List (Nat × Nat)} {ws:List Way2}(h:DLv n seen ws):seen.length+ws.length<=1048576:=by
 have:=pairs_few h.nodup h.small
 simpa using this
theorem DLv.push {seen:List (Nat × Nat)} {ws:List Way2} {p:Nat × Nat}(h:DLv n seen ws)(hn:p ∉ seen++ws.map (·.1))(hp:p.1<1024/\p.2<1024)(ht:t.length=n):DLv n seen (ws++[(p,t)]):=by
 have e:seen++(ws++[(p,t)]).map (·.1)=(seen++ws.map (·.1))++[p]:=by simp
 refine⟨?_,λq hq=>?_,λx hx=>?_⟩
 ·rw[e,d2_]
  exact⟨h.nodup,by simp,λx hx y hy e'=>by simp only[k_] at hy;subst hy;subst e';exact hn hx⟩
 ·rw[e]at hq
  rcases E_.1 hq with hq|hq
  ·exact h.small q hq
  ·simp only[k_]at hq;subst hq;exact hp
 ·rcases E_.1 hx with hx|hx
  ·exact h.len x hx
  ·simp only[k_]at hx;subst hx;exact ht
theorem DLv.start {seen:List (Nat × Nat)} {ws:List Way2}(h:DLv n seen ws)(m:Nat):DLv m (seen++ws.map (·.1)) []:=⟨by simpa using h.nodup,by simpa using h.small,λx hx=>by cases hx⟩
theorem zth {a b:Au} {w:Way2} {s:List (Nat × Nat) × List Way2} {seen:List (Nat × Nat)} {f:List Way2}(hs:(seen++f.map (·.1),f)=goW a b w s m)(h:nextP a b w.1 m∈seen\/nextP a b w.1 m∈f.map (·.1)):(seen++f.map (·.1),f)=goW a b w s (m+1):=
 zsm hs (E_.2 h)
theorem zu0 {a b:Au} {w:Way2} {s:List (Nat × Nat) × List Way2} {seen:List (Nat × Nat)} {f:List Way2}(hs:(seen++f.map (·.1),f)=goW a b w s m)(h1:nextP a b w.1 m ∉ seen)(h2:nextP a b w.1 m ∉ f.map (·.1)):
  (seen++(f++[(nextP a b w.1 m,w.2++[((m/3:Nat):Int),16+((m%3:Nat):Int)])]).map (·.1),f++[(nextP a b w.1 m,w.2++[((m/3:Nat):Int),16+((m%3:Nat):Int)])])=goW a b w s (m+1):=by
 have h:=zr2 hs (λh=>(E_.1 h).elim h1 h2);rw[<-h];simp
theorem zx3(a b:Au)(l:List Way2){k:Nat}(hk:k<l.length)(o:List Int):bestL a b (l.take (k+1)) o=bestW (apartP a b l[k].1) l[k].2 (bestL a b (l.take k) o) 4:=by
 unfold bestL;rw[F_ hk,d3_];rfl
theorem zmj {tr:List Int}(ht:tr.length=n)(hb:best.length<=n+1):∀ k,(bestW x tr best k).length<=n+1
 | 0=>hb
 | k+1=>by
  rw[bestW]
  split
  ·simp[ht]
  ·exact zmj ht hb k
theorem znr {a b:Au}:∀ {l:List Way2} {o:List Int},(∀ w∈l,w.2.length=n)->o.length<=n+1->(bestL a b l o).length<=n+1
 | [],_,_,h=>h
 | w :: r,o,hl,h=>znr (l:=r) (λx hx=>hl x (by simp[hx])) (zmj (hl w (by simp)) h 4)
theorem zx1 {tr:List Int}(h:(x.testBit (3-k)&&((bestW x tr best k).isEmpty||ltL (tr++[((3-k:Nat):Int)]) (bestW x tr best k)))=true):bestW x tr best (k+1)=tr++[((3-k:Nat):Int)]:=by rw[bestW,x_ h]
theorem zxi {tr:List Int}(h:(x.testBit (3-k)&&((bestW x tr best k).isEmpty||ltL (tr++[((3-k:Nat):Int)]) (bestW x tr best k)))=false):bestW x tr best (k+1)=bestW x tr best k:=by rw[bestW,m_ (by simp[h])]
theorem zxr {a b:Au}(hn:n<21){seen:List (Nat × Nat)}{l:List Way2}(hw:WaysI m l)(h:bestL a b l []≠[]):levGo a b (21-n) seen l=some (bestL a b l []):=by
 rw[bestL_hit hw]at h ⊢;cases ht:hitL a b l with
 | none=>rw[ht] at h;exact absurd rfl h
 | some t=>rw[zp3 hn ht];rfl
theorem zsz {a b:Au}:∀ {l:List Way2},hitL a b l=some t->t≠[]
 | [],h=>by cases h
 | w :: r,h=>by
  unfold hitL at h
  split at h
  ·rename_i t' ht
   unfold hitW at ht;obtain⟨k,_,e⟩:=W_.1 ht;injection h with h;subst h;subst e;simp
  ·exact zsz h
theorem zui {a b:Au}(hn:n<21){seen:List (Nat × Nat)}{l:List Way2}(hw:WaysI m l)(h:bestL a b l []=[]){q:List (Nat × Nat)}{f:List Way2}(hq:(q,f)=goL a b (seen,[]) l):levGo a b (21-n) seen l=levGo a b (21-(n+1)) q f:=by
 refine zss hn ?_ hq;rw[bestL_hit hw]at h;cases ht:hitL a b l with
 | none=>rfl
 | some t=>rw[ht] at h;exact absurd h (zsz ht)
theorem zof(a b:Au):∀ (f i:Nat) (o ps:List (Nat × Nat)),pairGo a b f i o=some ps->∃ r,ps=o++r
 | 0,i,o,ps,h=>⟨[],by simp only[pairGo,ar_] at h;simp[h]⟩
 | f+1,i,o,ps,h=>by
  unfold pairGo at h
  split at h
  ·split at h
   ·cases h
   ·(obtain⟨r,e⟩:=zof a b f _ _ _ h);obtain⟨r2,E⟩:=zki a b o (o.getD i (0,0)) 12;exact⟨r2++r,by rw[e,E,Z_]⟩
  ·injection h with h
   exact⟨[],by simp[h]⟩
theorem zzn(h:zb2 e f=[]):differV e f=none:=by
 unfold differV;rw[m_];intro hs;obtain⟨ps,hp⟩:=d7_.1 hs;unfold zb2 at h;rw[hp,ac_]at h;subst h;unfold pairsV at hp
 split at hp
 ·cases hp
 ·obtain⟨r,hr⟩:=zof _ _ _ _ _ _ hp
  simp at hr
theorem zyp(h:zb2 e f≠[]):differV e f=levGo (autV e) (autV f) 21 [(1,1)] [((1,1),[])]:=by
 unfold differV;rw[x_];unfold zb2 at h;cases hp:pairsV e f with
 | none=>rw[hp] at h;exact absurd rfl h
 | some ps=>rfl
theorem zue(xs ys:List (Nat × Nat)):prL (xs++ys)=prL xs++prL ys:=by simp[prL]
theorem z1l(xs:List (Nat × Nat))(p:Nat × Nat):prL (xs++[p])=prL xs++[[(p.1:Int),(p.2:Int)]]:=by simp[prL]
def FtS(o:Option (List Int))(w:World)(r:Value)(w':World):Prop:=((∃ t v,o=some t/\r=.tuple #[v,.bool true]/\γ w w' 3 w' v t/\t.length<=64)\/(o=none/\∃ g,r=.tuple #[.slice (q_ g 0) 0 0,.bool false]))/\Below w w w'
structure LvS(w4 wr:World)(B:Nat)(vs vt vn:Value)(seen:List (Nat × Nat))(l:List Way2):Prop where
 lo:w4.heap.size<=B
 hi:B<=wr.heap.size
 seen:∃ ss,LLs w4 B wr vs ss (prL seen)
 tr:Ζ B wr vt (l.map (·.2))
 now:zcl B wr vn (l.map (·.1))
 below:Below w4 w4 wr
theorem LvS.go {seen:List (Nat × Nat)} {l:List Way2}(h:LvS w4 wr B vs vt vn seen l)(hb:Below wr wr wx):LvS w4 wx B vs vt vn seen l:=by
 obtain⟨ss,hs⟩:=h.seen;have E:=h.hi;have hl:=h.lo;exact⟨h.lo,J_ E hb.size,⟨ss,hs.below hb E⟩,h.tr.go hb,h.now.go hb,h.below.trans (hb.mono (by omega))⟩
structure LvG(w4 ws:World)(B:Nat)(vs vt vn:Value)(seen:List (Nat × Nat))(l:List Way2):Prop where
 seen:∃ ss,LLs w4 ws ws vs ss (prL seen)
 tr:Ζ B ws vt (l.map (·.2))
 now:zcl B ws vn (l.map (·.1))
 below:Below w4 w4 ws
theorem LvS.grow {seen:List (Nat × Nat)} {l:List Way2} {ss sn:List Value}(h:LvS w4 wr B vs vt vn seen l)(hs:LLs w4 B wr vs ss (prL seen))(hn:LLs B wr wr vn sn (prL (l.map (·.1))))
  (ho:Own 1 w4 w9 22 w9 v9 (ss.length+sn.length) (ss++sn)) (hg:wr.grownBy w9 vs.ownBlock):LvG w4 w9 B v9 vt vn (seen++l.map (·.1)) l:=by
 have hh:=h.hi;have hl:=h.lo;have hz:=hg.size
 have far:∀ {v:Value} {us:List Value} {xss:List (List Int)},LLs B wr wr v us xss->LLs B wr w9 v us xss:=fun {v us xss} hv=>LLs.far hv hs.1 hg (by
  cases hb:v.ownBlock with
  | none=>exact .inl rfl
  | some j=>
   right
   intro e;have h1:=(hv.1.1.lt j hb).1;have h2:=hs.1.2 j e.symm;omega)
 obtain⟨Z,I,st,K,ht⟩:=h.tr;obtain⟨U,E,sm,J,hm⟩:=h.now;refine⟨⟨ss++sn,?_⟩,⟨Z,I,st,K,(far ht).lower (le_ _) hz⟩,⟨U,E,sm,J,(far hm).lower (le_ _) hz⟩,ε h.below (zb1 hg hs.1.lt) (le_ _) (by omega)⟩;rw[zue];exact za9 hs hg ho rfl hn.2.1 (λi h1 h2=>(hn.2.2 i h1 h2).lower hl hz) (by omega)
theorem ztq {w5:World}(hw:w5=((((w4.alloc (.cells #[] 22)).alloc (.cells #[] 3)).alloc (.cells #[.slice (q_ (w4+1) 0) 0 0] 22)).alloc (.cells #[(1:Int),(1:Int)] 3)).alloc (.cells #[.slice (q_ (w4+3) 0) 2 2] 22)):
  LvS w4 w5 (w4+1) (.slice (q_ w4 0) 0 0) (.slice (q_ (w4+2) 0) 1 1) (.slice (q_ (w4+4) 0) 1 1) [] [((1,1),[])]:=by
 have⟨I,h1⟩:=xa_ w4 #[] 22;have⟨J,h2⟩:=xa_ I #[] 3;have⟨E,h3⟩:=xa_ J #[.slice (q_ (w4+1) 0) 0 0] 22;have⟨K,h4⟩:=xa_ E #[(1:Int),(1:Int)] 3;rw[<-h1,<-h2,<-h3,<-h4]at hw;have b1:Below w4 w4 I:=by rw[h1];exact ζ _ _
 have b2:Below I I J:=by rw[h2];exact ζ _ _
 have b3:Below J J E:=by rw[h3];exact ζ _ _
 have b4:Below E E K:=by rw[h4];exact ζ _ _
 have b5:Below K K w5:=by rw[hw];exact ζ _ _
 have s1:I=w4.heap.size+1:=by rw[h1];simp
 have s2:J=w4.heap.size+2:=by rw[h2,μ];omega
 have s3:E=w4.heap.size+3:=by rw[h3,μ];omega
 have s4:K=w4.heap.size+4:=by rw[h4,μ];omega
 have s5:w5=w4.heap.size+5:=by rw[hw,μ];omega
 have k1:LLs w4 (w4+1) I (.slice (q_ w4 0) 0 0) [] []:=by rw[h1];exact zff _ w4 (le_ _)
 have k2:γ I J 3 J (.slice (q_ (w4+1) 0) 0 0) []:=by
  rw[s2,h2,<-s1];have h:=ς 1 3 I (δ []) 0 (by omega) rfl;rw[show w4+2=I.heap.size+1 by omega];exact h
 have k3:LLs I E E (.slice (q_ (w4+2) 0) 1 1) [.slice (q_ (w4+1) 0) 0 0] [[]]:=by
  have h:=LLs.one k2 (by omega);rw[<-h3,show J+1=E.heap.size by omega,s2]at h;exact h
 have k4:γ E K 3 K (.slice (q_ (w4+3) 0) 2 2) [1,1]:=by
  rw[s4,h4,<-s3];have h:=ς 1 3 E (δ [1,1]) 2 (by omega) rfl;rw[show w4+4=E.heap.size+1 by omega];exact h
 have k5:LLs E w5 w5 (.slice (q_ (w4+4) 0) 1 1) [.slice (q_ (w4+3) 0) 2 2] [[1,1]]:=by
  have h:=LLs.one k4 (by omega);rw[<-hw,show K+1=w5.heap.size by omega,s4]at h;exact h
 have U:Below I I w5:=((b2.trans (b3.mono (by omega))).trans (b4.mono (by omega))).trans (b5.mono (by omega));have Z:Below E E w5:=b4.trans (b5.mono (by omega));refine⟨by omega,by omega,⟨[],k1.below U (by omega)⟩,⟨_,1,[.slice (q_ (w4+1) 0) 0 0],rfl,?_⟩,⟨_,1,[.slice (q_ (w4+3) 0) 2 2],rfl,?_⟩,b1.trans (U.mono (by omega))⟩
 ·exact(k3.below Z (le_ _)).lower (by omega) (by omega)
 ·exact k5.lower (by omega) (le_ _)
structure FuT(ws wx:World)(vt vn:Value)(ts:List (List Int))(ps:List (Nat × Nat)):Prop where
 tr:Ζ ws wx vt ts
 now:zcl ws wx vn ps
 ne:∀ j,vt.ownBlock=some j->vn.ownBlock=some j->False
 below:Below ws ws wx
theorem FuT.go {wy:World} {ts:List (List Int)} {ps:List (Nat × Nat)}(h:FuT ws wx vt vn ts ps)(hb:Below wx wx wy):FuT ws wy vt vn ts ps:=
 ⟨h.tr.go hb,h.now.go hb,h.ne,h.below.trans (hb.mono h.below.size)⟩
theorem zoy {a b:Option Nat}(h:∀ j,a=some j->b=some j->False):a=none\/a≠b:=by
 cases a with
 | none=>exact .inl rfl
 | some j=>exact .inr λe=>h j rfl e.symm
theorem FuT.pushNow {J I:Nat} {sn:List Value} {ts:List (List Int)} {ps:List (Nat × Nat)} {p:Nat × Nat}(h:FuT ws wA vt (.slice (q_ J 0) sn I) ts ps)(hq:LLs ws wA wA (.slice (q_ J 0) sn I) sn (prL ps))
  (hs:γ ws wA 3 wA s [(p.1:Int),(p.2:Int)]) (ho:Own 1 ws w9 22 w9 v9 (sn.length+1) (sn++[s])) (hg:(wA.alloc (.cells #[s] 22)).grownBy w9 (Value.slice (q_ J 0) sn I).ownBlock)
  (hl:v9.ownBlock=(Value.slice (q_ J 0) sn I).ownBlock\/v9.ownBlock=some (wA.alloc (.cells #[s] 22)).heap.size):FuT ws w9 vt v9 ts (ps++[p]):=by
 obtain⟨gt,U,st,et,ht⟩:=h.tr;have K:=Ζ.app hq hs ho hg;have E:=LLs.beside hq ht (le_ _) (zoy h.ne) hg hl;have hz:(wA.alloc (.cells #[s] 22)).heap.size=wA.heap.size+1:=μ _ _;have a1:=hg.size;refine⟨⟨gt,U,st,et,E.1.lower (le_ _) (by omega)⟩,?_,λj e1 Z=>?_,ε h.below K.2 (le_ _) h.below.size⟩
 ·rw[zcl,z1l]
  exact K.1
 ·rcases E.2 with e|e
  ·rw[e]at e1;cases e1
  ·exact e (e1.trans Z.symm)
theorem FuT.pushTr {K J:Nat} {st:List Value} {ts:List (List Int)} {ps:List (Nat × Nat)}(h:FuT ws wA (.slice (q_ K 0) st J) vn ts ps)(hq:LLs ws wA wA (.slice (q_ K 0) st J) st ts)
  (hs:γ ws wA 3 wA s t) (ho:Own 1 ws w9 22 w9 v9 (st.length+1) (st++[s])) (hg:(wA.alloc (.cells #[s] 22)).grownBy w9 (Value.slice (q_ K 0) st J).ownBlock)
  (hl:v9.ownBlock=(Value.slice (q_ K 0) st J).ownBlock\/v9.ownBlock=some (wA.alloc (.cells #[s] 22)).heap.size):FuT ws w9 v9 vn (ts++[t]) ps:=by
 obtain⟨gn,Z,sn,en,hn⟩:=h.now;have U:=Ζ.app hq hs ho hg;have I:=LLs.beside hq hn (le_ _) (zoy λj e1 E=>h.ne j E e1) hg hl;have hz:(wA.alloc (.cells #[s] 22)).heap.size=wA.heap.size+1:=μ _ _;have a1:=hg.size;refine⟨U.1,⟨gn,Z,sn,en,I.1.lower (le_ _) (by omega)⟩,λj e1 E=>?_,ε h.below U.2 (le_ _) h.below.size⟩;rcases I.2 with e|e
 ·rw[e]at E;cases E
 ·exact e (E.trans e1.symm)
theorem FuT.start(w:World):FuT w ((w.alloc (.cells #[] 22)).alloc (.cells #[] 22)) (.slice (q_ w 0) 0 0) (.slice (q_ (w+1) 0) 0 0) [] []:=by
 have h2:=zfj w (w.alloc (.cells #[] 22)) (by simp);rw[μ]at h2;refine⟨(zfj w w (le_ _)).go (ζ _ _),h2,λj e1 E=>?_,(ζ _ _).trans ((ζ _ _).mono (by simp))⟩;simp only[Value.ownBlock,ar_]at e1 E;omega
theorem zu6(a b:Au)(x y:Nat):apartP a b (x,y)=0↔endsU a x=endsU b y:=by
 unfold apartP
 constructor
 ·intro h
  refine Nat.eq_of_testBit_eq λi=>?_
  have h2:(endsU a x ^^^ endsU b y).testBit i=false:=by rw[h];simp
  rw[Nat.testBit_xor]at h2
  revert h2
  cases (endsU a x).testBit i<;>cases (endsU b y).testBit i<;>simp
 ·intro h
  simp only;rw[h,Nat.xor_self]
theorem zrs {K:Nat}(h:x<K):inB (x:Int) 0 ((K:Int)-1)=true:=by
 unfold inB;rw[j_,t_,t_];omega
theorem zwh(lo hi lo' hi' lp:Nat)(ve vf vp:Value)(e f:List Int)(ps:List (Nat × Nat))(w:World)(hx:SlI lo hi w ve e)(hy:SlI lo' hi' w vf f)(hz:zcl lp w vp ps)(hh:hi<=w)(n6:hi'<=w)(hm:e.length<=1048576)(n7:f.length<=1048576)(k8:ps.length<=100)(hr:∀ p∈ps,p.1<2 ^ (autV e).ends.length/\p.2<2 ^ (autV f).ends.length):
  Calls prog 105 #[ve,vf,vp] w λr w'=>r=.returned (.bool (okX e f ps))/\Below w w w':=by
 have HX:=H_ hx;have HY:=H_ hy;have HZ:=H_ hz;have HR:=H_ hr;have h7:=H_ (zbo e);have h9:=H_ (zbo f);have d8:=H_ (B_ w w);obtain⟨pg,pc,rfl⟩:=hz.shape;clear hx hy hz hr
 go_enter func105,ntmps105
 go_wp2_with fail
 refine(zhq _ _ _ e w (HX.o.below d8.o hh) (by have:=d8.o.size;omega) hm).mono ?_;rintro e1 w1 ⟨v1,rfl,⟨va,vb,ss,rfl,a9,b0⟩,a5⟩;have p2:=d8.o.size;have r3:=a5.size;obtain⟨a1,c1,rfl⟩:=η a9;obtain⟨a2,K,rfl⟩:=η b0.1;have⟨w2,d5⟩:=xa_ w1 #[.slice a1 (autV e).ends.length c1,.slice a2 ss K] 123;obtain⟨hb2,K2,o6⟩:=Η d5;have c6:=H_ ((d8.o.trans (a5.mono (by omega))).trans (hb2.mono (by omega)));have b7:=H_ (show AuS w w2 w2 (.agg #[.slice a1 (autV e).ends.length c1,.slice a2 ss K]) (autV e)/\Blk w1 (.cells #[.slice a1 (autV e).ends.length c1,.slice a2 ss K] 123) w2 from ⟨zh4 (zhp ⟨_,_,rfl,a9.sl,b0.sl⟩ hb2 (le_ _)) (by omega) (by omega),K2⟩);clear a5 hb2 K2 a9 b0;go_wp2_with fail
 simp only[<-d5];clear d5;refine(zhq _ _ _ f w2 (HY.o.below c6.o n6) (by have:=c6.o.size;omega) n7).mono ?_;rintro e3 w3 ⟨v3,rfl,⟨vc,vd,tt,rfl,a9,b0⟩,a5⟩;have r4:=a5.size;obtain⟨a3,c3,rfl⟩:=η a9;obtain⟨a4,c4,rfl⟩:=η b0.1;have⟨w4,d6⟩:=xa_ w3 #[.slice a3 (autV f).ends.length c3,.slice a4 tt c4] 123;obtain⟨hb2,K2,o7⟩:=Η d6;have J:=H_ ((c6.o.trans (a5.mono (by omega))).trans (hb2.mono (by omega)));have⟨n1,b4⟩:=ex_ ((autV e).ends.length);have⟨n2,b5⟩:=ex_ ((autV f).ends.length);have e6:=H_ b4;have Z:=H_ b5
 have b6:Q_ (AuB w w4 w1 w3 (.slice a1 n1 c1) (.slice a2 ss K) (.slice a3 n2 c3) (.slice a4 tt c4) (autV e) (autV f)):=by
  rw[b4,b5];exact H_ ⟨(b7.o.2.below a5 (by omega)).below hb2 (by omega),K2,((b7.o.1.below a5 (by omega)).below hb2 (by omega)).wide (le_ _) (by omega),zh4 (zhp ⟨_,_,rfl,a9.sl,b0.sl⟩ hb2 (le_ _)) (by omega) (by omega)⟩
 clear a5 hb2 K2 a9 b0 b7 b4 b5;go_upto_region 3 with fail
 simp only[<-d6];clear d6;have ca:=b6.o.one.cell 0;have cb:=b6.o.two.cell 0;have p8:=b6.o.one.lt;have p9:=b6.o.two.lt;have b2:=J.o.size;have i6:=H_ (HZ.o.go (J.o.mono (le_ _)));by_cases h0:n1=0\/n2=0
 ·have HE:=H_ (zm6 (e:=e) (f:=f) (ps:=ps) (h0.imp (λh=>A_ (e6.o.symm.trans h)) (λh=>A_ (Z.o.symm.trans h))))
  cases g1:decide ((n1:Int)=0)<;>cases g2:decide ((n2:Int)=0)
  ·exfalso
   have:=bc_ g1;have:=bc_ g2;omega
  all_goals (
   have g3:((n1:Int)==0)=decide ((n1:Int)=0):=rfl;have g4:((n2:Int)==0)=decide ((n2:Int)=0):=rfl;rw[g1]at g3;rw[g2]at g4;go_wp2;go_ret;exact⟨χ HE.o,J.o⟩)
 ·have g1:((n1:Int)==0)=false:=by simp;omega
  have g2:((n2:Int)==0)=false:=by simp;omega
  have m5:=H_ (show (autV e).ends≠[]/\(autV f).ends≠[] from ⟨λh=>h0 (.inl (by rw[e6.o,h];rfl)),λh=>h0 (.inr (by rw[Z.o,h];rfl))⟩);have n3:decide ((100:Int)<(ps.length:Int))=false:=by simp;omega
  have b4:n1<=10:=by rw[e6.o];exact h7.o.le
  have b5:n2<=10:=by rw[Z.o];exact h9.o.le
  clear h0;have⟨B,hB⟩:=ex_ (decide ((1,1)∈ps));have HC:=H_ (zip _ _ _ ps 1 1 w4 i6.o.sl (le_ _) (by omega));rw[<-hB]at HC;have⟨N,hN⟩:=ex_ (!B);have k6:=H_ hN;have e2:=H_ (show N=!decide ((1,1)∈ps) by rw[hN,hB]);clear hB hN
  go_cut [35] (λv wx=>v=.bool N/\Q_ (Below w4 w4 wx))
  case first=>
   go_wp2_with fail
   refine HC.o.mono ?_;rintro e5 w5 ⟨rfl,l6⟩;have b9:=H_ l6;clear l6;go_wp2_with fail
   go_meet
   exact⟨by rw[k6.o],b9⟩
  obtain⟨rfl,b9⟩:=hcut;obtain⟨w5,rfl⟩:=ex_ wc;have r5:=b9.o.size;clear ca cb HC k6;by_cases b3:(1,1)∈ps
  ·have m4:=H_ b3
   obtain rfl:N=false:=by rw[e2.o];simp[b3]
   clear b3 e2;go_wp2;go_loopw [9] (λi wr=>∃ k:Nat,k<=ps.length/\i=.int .i64 k/\Q_ (Below w4 w4 wr)/\Q_ (∀ j (h:j<ps.length),j<k->apartP (autV e) (autV f) ps[j]=0/\∀ m,m<12->nextP (autV e) (autV f) ps[j] m∈ps)) (λi _=>ps.length-(intOf i).toNat)
   case atStart=>exact⟨0,by omega,rfl,b9,H_ (λj _ h=>by omega)⟩
   case round=>
    rename World=>wr
    obtain⟨k,hk,rfl,a6,HG⟩:=hrel;have f9:=a6.o.size;by_cases hlt:k<ps.length
    ·(obtain⟨x,y,g5⟩:∃ x y,ps[k]=(x,y):=⟨_,_,rfl⟩);(have k7:=H_ g5)
     have f3:=H_ (show x<2 ^ n1/\y<2 ^ n2 from by
      have:=HR.o _ (u_ hlt);rw[g5,<-e6.o,<-Z.o]at this;exact this)
     (obtain⟨m6,c2,hg,j0,n0,j6,j7⟩:=(i6.o.go a6.o).at k hlt x y g5;have⟨g2,g9⟩:=ex_ m6;rw[<-g9]at j0 n0 j6 j7;have I:=H_ (b6.o.go a6.o);have f8:∀ w',Below wr wr w'->w'.cell? (p_ w1 0)=some (.slice a1 n1 c1)/\w'.cell? (p_ w1 1)=some (.slice a2 ss K)/\w'.cell? (p_ w3 0)=some (.slice a3 n2 c3)/\w'.cell? (p_ w3 1)=some (.slice a4 tt c4)/\w'.cell? (p_ g2 0)=some (.int .i64 (x:Nat))/\w'.cell? (p_ g2 1)=some (.int .i64 (y:Nat)):=λw' hb=>⟨(I.o.go hb).one.cell 0,(I.o.go hb).one.cell 1,(I.o.go hb).two.cell 0,(I.o.go hb).two.cell 1,(hb.cell (p:=p_ g2 0) j0).trans j6,(hb.cell (p:=p_ g2 1) j0).trans j7⟩);(have l8:x<1048576:=T_ f3.o.1 (J_ (ah_ (by omega) b4) (by omega));have l9:y<1048576:=T_ f3.o.2 (J_ (ah_ (by omega) b5) (by omega));have f6:Below wr wr wr.drew:=z_ (B_ _ _);have hS:=f8 wr (B_ _ _);have m7:=f8 _ f6;have i5:=H_ f8;have n5:wr.drew.heap.size=wr.heap.size:=rfl;have⟨K1,f4⟩:=ex_ (2 ^ n1);have⟨K2,f5⟩:=ex_ (2 ^ n2);have m0:(2:Int) ^ n1=(K1:Int):=by rw[f4];push_cast;rfl);(have m1:(2:Int) ^ n2=(K2:Int):=by rw[f5];push_cast;rfl);(have o3:K1<=1024:=by rw[f4];exact J_ (ah_ (by omega) b4) (by decide));(have o4:K2<=1024:=by rw[f5];exact J_ (ah_ (by omega) b5) (by decide));(have j9:=H_ (show inB (x:Int) 0 ((K1:Int)-1)=true from zrs (by rw[f4];exact f3.o.1));have k4:=H_ (show inB (y:Int) 0 ((K2:Int)-1)=true from zrs (by rw[f5];exact f3.o.2));have o0:IntKind.i64.wrap (2 ^ n1)=(K1:Int):=by rw[m0,dh_];omega);(have o1:IntKind.i64.wrap (2 ^ n2)=(K2:Int):=by rw[m1,dh_];omega);(have n8:IntKind.i64.wrap ((K1:Int)-1)=(K1:Int)-1:=by rw[dh_];omega);(have n9:IntKind.i64.wrap ((K2:Int)-1)=(K2:Int)-1:=by rw[dh_];omega);clear f4 f5 m0 m1;have l7:((2:Int) !=2)=false:=by decide
     clear f8 j6 j7 g5 g9;have c7:=H_ (zu6 (autV e) (autV f) x y);have i3:=H_ (zjm _ _ _ (autV e) x wr.drew (I.o.fst.below f6 (le_ _)) (by omega) h7.o l8);have i4:=H_ (λw7 (hb:Below wr wr w7)=>zjm _ _ _ (autV f) y w7 (I.o.snd.below hb (le_ _)) (by have:=hb.size;omega) h9.o l9);have⟨P,hP⟩:=ex_ (endsU (autV e) x);have⟨Q,hQ⟩:=ex_ (endsU (autV f) y);rw[<-hP,<-hQ]at c7;rw[<-hP]at i3;rw[<-hQ]at i4;clear hP hQ;have⟨N2,k9⟩:=ex_ ((P:Int) !=(Q:Int));have Z:=H_ k9;clear k9;go_upto_region 9 with fail
     go_cut [85] (λv wx=>v=.bool N2/\Q_ (Below wr wr wx))
     case first=>
      go_region_held3 (λw'=>w'.cell? (p_ w1 0)=some (.slice a1 n1 c1)/\w'.cell? (p_ w1 1)=some (.slice a2 ss K)/\w'.cell? (p_ w3 0)=some (.slice a3 n2 c3)/\w'.cell? (p_ w3 1)=some (.slice a4 tt c4)/\w'.cell? (p_ g2 0)=some (.int .i64 (x:Nat))/\w'.cell? (p_ g2 1)=some (.int .i64 (y:Nat))) (first | with_reducible assumption | go_keep) (first
       | (go_at_call_of 101 (Value.int .i64 ((x:Nat):Int));refine(za0 _ _ _ _).mono ?_;rintro e_ _ ⟨rfl,rfl⟩;(try rw[j9.o]))
       | (go_at_call_of 101 (Value.int .i64 ((y:Nat):Int));refine(za0 _ _ _ _).mono ?_;rintro e_ _ ⟨rfl,rfl⟩;(try rw[k4.o]))
       | (go_at_call_of 112 (Value.agg #[.slice a1 n1 c1,.slice a2 ss K]);refine i3.o.mono ?_;rintro e7 w7 ⟨rfl,E⟩;(have r6:=E.size);(have i7:=f6.trans (E.mono (by omega)));(have p6:=i5.o _ i7);(have j8:=H_ i7);clear E i7)
       | (go_at_call_of 112 (Value.agg #[.slice a3 n2 c3,.slice a4 tt c4]);refine(i4.o w7 j8.o).mono ?_;rintro e8 w8 ⟨rfl,E⟩;(have r7:=E.size);(have i8:=j8.o.trans (E.mono (by omega)));(have p7:=i5.o _ i8);(have d9:=H_ i8);clear E i8))
      go_wp2_with fail
      go_meet
      exact⟨by rw[Z.o],d9⟩
     obtain⟨rfl,d9⟩:=hcut;obtain⟨w8,rfl⟩:=ex_ wc;have k5:=H_ (show (x,y)∈ps from by rw[<-k7.o];exact u_ hlt);have g7:=a6.tr d9.o f9;have p3:=g7.o.size;clear hS m7 f6 n5 o0 o1 n8 n9 j9 k4 l7 i3 i4;by_cases d3:P=Q
     ·(obtain rfl:N2=false:=by rw[Z.o];simp[d3]);(have m2:=H_ (c7.o.2 d3);clear d3 c7 Z;go_wp2;go_loopw [11] (λi wx=>∃ m:Nat,m<=12/\i=.int .i64 m/\Q_ (Below wr wr wx)/\Q_ (∀ j,j<m->nextP (autV e) (autV f) (x,y) j∈ps)) (λi _=>12-(intOf i).toNat));case atStart=>exact⟨0,by omega,rfl,d9,H_ (λj h=>by omega)⟩
      case round=>
       rename World=>wx
       obtain⟨m,o5,rfl,a8,HM⟩:=hrel;have d7:=a8.o.size;by_cases d4:m<12
       ·(have b1:∀ w',Below wx wx w'->w'.cell? (p_ w1 0)=some (.slice a1 n1 c1)/\w'.cell? (p_ w1 1)=some (.slice a2 ss K)/\w'.cell? (p_ w3 0)=some (.slice a3 n2 c3)/\w'.cell? (p_ w3 1)=some (.slice a4 tt c4)/\w'.cell? (p_ g2 0)=some (.int .i64 (x:Nat))/\w'.cell? (p_ g2 1)=some (.int .i64 (y:Nat)):=λw' hb=>i5.o w' (a8.o.trans (hb.mono d7)));(have f7:Below wx wx wx.drew:=z_ (B_ _ _);have hT:=b1 wx (B_ _ _);have m9:=b1 _ f7;have e4:=H_ b1;have n4:wx.drew.heap.size=wx.heap.size:=rfl;have f2:Q_ (nextP (autV e) (autV f) (x,y) m=(stepU (autV e) x m,stepU (autV f) y m)):=H_ rfl;have i0:=H_ (zh0 _ _ _ (autV e) x m wx.drew (I.o.fst.below (a8.o.trans (f7.mono d7)) (le_ _)) (by omega) h7.o (by omega) d4);have i2:=H_ (λw7 (hb:Below wx wx w7)=>zh0 _ _ _ (autV f) y m w7 (I.o.snd.below (a8.o.trans (hb.mono d7)) (le_ _)) (by have:=hb.size;omega) h9.o (by omega) d4);have⟨X,hX⟩:=ex_ (stepU (autV e) x m);have⟨Y,hY⟩:=ex_ (stepU (autV f) y m);rw[<-hX,<-hY]at f2;rw[<-hX]at i0;rw[<-hY]at i2;clear b1 hX hY;go_upto_region 14 with fail)
        go_region_held3 (λw'=>w'.cell? (p_ w1 0)=some (.slice a1 n1 c1)/\w'.cell? (p_ w1 1)=some (.slice a2 ss K)/\w'.cell? (p_ w3 0)=some (.slice a3 n2 c3)/\w'.cell? (p_ w3 1)=some (.slice a4 tt c4)/\w'.cell? (p_ g2 0)=some (.int .i64 (x:Nat))/\w'.cell? (p_ g2 1)=some (.int .i64 (y:Nat))) (first | with_reducible assumption | go_keep) (first
         | (go_at_call_of 114 (Value.agg #[.slice a1 n1 c1,.slice a2 ss K]);refine i0.o.mono ?_;rintro e9 w9 ⟨rfl,E⟩;(have r8:=E.size);(have i9:=f7.trans (E.mono (by omega)));(have m8:=e4.o _ i9);(have h8:=H_ i9);clear E i9)
         | (go_at_call_of 114 (Value.agg #[.slice a3 n2 c3,.slice a4 tt c4]);refine(i2.o w9 h8.o).mono ?_;rintro p4 o2 ⟨rfl,E⟩;(have o8:=E.size);(have c8:=h8.o.trans (E.mono (by omega)));(have l0:=e4.o _ c8);(have b8:=H_ c8);clear E c8)
         | (go_at_call 115;refine(zip _ _ _ ps X Y o2 (i6.o.go (a6.o.trans ((a8.o.trans (b8.o.mono d7)).mono f9))).sl (le_ _) (by omega)).mono ?_;rintro p5 r9 ⟨rfl,E⟩;(have o9:=E.size);(have c9:=b8.o.trans (E.mono (by omega)));(have l5:=e4.o _ c9);(have g6:=H_ c9);clear E c9))
        have g8:=a8.tr g6.o d7;clear hT m9 m8 l0 l5 h8 b8 g6 f7 n4 e4;by_cases U:(X,Y)∈ps
        ·(have a7:decide ((X,Y)∈ps)=true:=by simp[U])
         have HN:=H_ (show ∀ j,j<m+1->nextP (autV e) (autV f) (x,y) j∈ps from λj h=>by
          rcases bi_ j m with h1|h1
          ·exact HM.o j h1
          ·(obtain rfl:j=m:=by omega);rw[f2.o];exact U)
         rw[a7];clear a7 U f2 i0 i2 HM;go_wp2;go_roundw
         (case rel=>exact⟨m+1,by omega,by go_num,g8,HN⟩);case measure=>simp[intOf];omega
        ·(have a7:decide ((X,Y)∈ps)=false:=by simp[U]);have HN:=H_ (zqb (e:=e) (f:=f) k5.o d4 (show nextP (autV e) (autV f) (x,y) m ∉ ps by rw[f2.o];exact U));rw[a7];clear a7 U;go_wp2;go_ret;exact⟨χ HN.o,J.o.trans ((a6.o.trans (g8.o.mono f9)).mono b2)⟩
       ·(obtain rfl:m=12:=by omega)
        have m3:=H_ (show ∀ j (h:j<ps.length),j<k+1->apartP (autV e) (autV f) ps[j]=0/\∀ m,m<12->nextP (autV e) (autV f) ps[j] m∈ps from λj h r1=>by
         by_cases hj:j=k
         ·subst hj
          rw[k7.o];exact⟨m2.o,HM.o⟩
         ·exact HG.o j h (by omega))
        go_wp2;go_roundw
        (case rel=>exact⟨k+1,by omega,by go_num,a6.tr a8.o f9,m3⟩);case measure=>simp[intOf];omega
     ·(obtain rfl:N2=true:=by rw[Z.o];simp;omega);have HN:=H_ (zr9 (e:=e) (f:=f) k5.o (λh=>d3 (c7.o.1 h)));clear d3 c7;go_wp2;go_ret;exact⟨χ HN.o,J.o.trans (g7.o.mono b2)⟩
    ·(obtain rfl:k=ps.length:=by omega)
     have HN:=H_ (zqg (e:=e) (f:=f) m5.o k8 m4.o (λr hr=>by
      obtain⟨p,hp,rfl⟩:=aa_.1 hr;exact⟨p.1,p.2,rfl,(HR.o p hp).1,(HR.o p hp).2⟩) (λp hp=>by
      obtain⟨j,hj,rfl⟩:=ax_ hp;exact HG.o j hj hj))
     go_wp2;go_ret;exact⟨χ HN.o,J.o.trans (a6.o.mono b2)⟩
  ·have HN:=H_ (zis (e:=e) (f:=f) (ps:=ps) (λh=>b3 (okP_open h).2.1))
   obtain rfl:N=true:=by rw[e2.o];simp[b3]
   clear b3 e2;go_wp2;go_ret;exact⟨χ HN.o,J.o.trans (b9.o.mono b2)⟩
end Go.Proofs.YtfnnhimopokpnaaGreatDoor
