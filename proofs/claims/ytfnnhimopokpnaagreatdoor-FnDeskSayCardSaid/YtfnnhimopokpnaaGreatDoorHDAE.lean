/- Lemmas for this seat; no condition. -/
import Derived.Test.YtfnnhimopokpnaaGreatDoorHDAD
namespace Go.Proofs.YtfnnhimopokpnaaGreatDoor
open Go.RowKit Proofs.Tryz
set_option maxRecDepth 100000
set_option maxHeartbeats 0
set_option linter.all false
variable {w' w:World} {lo hi n m cap g k bm:Nat} {ys ks:List Value} {t p:KT}
theorem zer(w:World):γ w (w.alloc (.cells #[] 3)).heap.size 3 (w.alloc (.cells #[] 3)) (.slice (q_ w 0) 0 0) []:=by
 have h:=ς 1 3 w (δ []) 0 (by omega) rfl;rw[μ];exact h
abbrev zn8(w:World):Ending->World->Prop:=za8 λv _ w'=>Below w w w'/\∃ zs:List Int,γ w w' 3 w' v zs/\zs.length<=40
theorem zm8 {e:List Int}(h:ν e=true):e.length<=40:=by
 simp only[ν,j_,t_]at h;exact h.1.2
theorem za8.mk {P:Value->Bool->World->Prop} {e:Ending}(v:Value)(b:Bool)(h:e=.returned (.tuple #[v,.bool b]))(hp:P v b w'):za8 P e w':=⟨v,b,h,hp⟩
theorem zf0(lo hi lo' hi':Nat)(va vb:Value)(xs ys:List Int)(w:World)(hx:SlI lo hi w va xs)(hy:SlI lo' hi' w vb ys)(hh:hi<=w)(hh':hi'<=w)(hm:xs.length+ys.length<=1048575):
  Calls prog 241 #[va,vb] w (zn8 w):=by
 have HX:=H_ hx;have HY:=H_ hy;obtain⟨xa,xc,rfl,_,_⟩:=π hx;obtain⟨ya,yc,rfl,_,_⟩:=π hy;clear hx hy
 go_enter func241,ntmps241
 go_wp2_with fail
 refine(zaj _ _ _ _ _ _ xs ys 19 w HX.o HY.o hh hh' (by omega)).mono ?_;rintro e w1 ⟨v1,rfl,hb1,ho1⟩;have hs1:=hb1.size;replace HX:=H_ (HX.o.below hb1 hh);replace HY:=H_ (HY.o.below hb1 hh');have HO:=H_ ho1;have HB:=H_ hb1;have hzl:(xs++ys++[19]).length<=1048576:=by simp;omega
 generalize xs++ys++[19]=zs at HO ho1 hzl;obtain⟨za,zc,rfl,_⟩:=θ ho1;clear hb1 ho1;go_wp2_with fail
 refine(zag _ _ _ xs _ HX.o (by omega)).mono ?_;rintro e _ ⟨rfl,rfl⟩;cases ν xs
 ·go_wp2
  go_ret2
  exact za8.mk _ _ rfl ⟨HB.o.trans (((B_ _ _).alloc (le_ _) _).mono hs1),[],(zer _).lower hs1 (le_ _),by simp⟩
 go_wp2_with fail
 refine(zag _ _ _ ys _ HY.o (by omega)).mono ?_;rintro e _ ⟨rfl,rfl⟩;cases ν ys
 ·go_wp2
  go_ret2
  exact za8.mk _ _ rfl ⟨HB.o.trans (((B_ _ _).alloc (le_ _) _).mono hs1),[],(zer _).lower hs1 (le_ _),by simp⟩
 go_wp2_with fail
 refine(zag _ _ _ zs _ HO.o.sl hzl).mono ?_;rintro e _ ⟨rfl,rfl⟩;cases h3:ν zs
 ·go_wp2
  go_ret2
  exact za8.mk _ _ rfl ⟨HB.o.trans (((B_ _ _).alloc (le_ _) _).mono hs1),[],(zer _).lower hs1 (le_ _),by simp⟩
 ·have HK:=H_ (zm8 h3)
  go_wp2
  go_ret2
  exact za8.mk _ _ rfl ⟨HB.o,zs,HO.o,HK.o⟩
theorem zxo(lo hi:Nat)(v:Value)(xs:List Int)(w:World)(hx:SlI lo hi w v xs)(hm:xs.length<=1048576):
  Calls prog 197 #[v] w (zc7 λ_ w'=>w=w'):=by
 have HX:=H_ hx;obtain⟨a,cap,rfl,hcap,hcm,hc⟩:=hx.open;clear hx hcm hcap;cases hk:ν xs
 ·go_enter func197,ntmps197
  go_wp2_with (go_at_call 64;refine(zag _ _ _ xs _ HX.o hm).mono ?_;rintro e w' ⟨rfl,rfl⟩)
  go_ret;exact⟨_,rfl,rfl⟩
 ·go_enter func197,ntmps197
  go_wp2_with (go_at_call 64;refine(zag _ _ _ xs _ HX.o hm).mono ?_;rintro e w' ⟨rfl,rfl⟩)
  go_loop [3,4] (λn i=>∃ (k:Nat) (m:Int),k<=xs.length/\n=.int .i64 m/\i=.int .i64 k/\0<=m/\m<=k) (λ_ i=>xs.length-(intOf i).toNat)
  case atStart=>exact⟨0,0,by omega,rfl,rfl,by omega,by omega⟩
  case round=>
   obtain⟨k,m,hk',rfl,rfl,hm0,hm1⟩:=hrel;by_cases hlt:k<xs.length
   ·(obtain⟨b,off,rfl,_,_,_,hcell⟩:=hc k hlt);clear hc;cases hb:inB xs[k] 16 18
    ·go_wp2_with (go_at_call 101;refine(za0 _ _ _ _).mono ?_;rintro e w' ⟨rfl,rfl⟩)
     go_round
     (case rel=>exact⟨k+1,m,by omega,rfl,by go_num,by omega,by omega⟩);case measure=>simp[intOf];omega
    ·go_wp2_with (go_at_call 101;refine(za0 _ _ _ _).mono ?_;rintro e w' ⟨rfl,rfl⟩)
     go_round
     (case rel=>exact⟨k+1,m+1,by omega,by go_num,by go_num,by omega,by omega⟩);case measure=>simp[intOf];omega
   ·(obtain rfl:k=xs.length:=by omega);go_wp2;go_ret;exact⟨_,rfl,rfl⟩
theorem zor(t:Int)(w:World)(h:inB t 0 15=true):Calls prog 198 #[.int .i64 t] w λe w'=>e=.returned (.int .i64 (15-t))/\w=w':=by
 have h2:0<=t/\t<=15:=by simpa [inB] using h
 obtain⟨h3,h4⟩:=h2
 go_enter func198,ntmps198
 go_wp2_with (go_at_call 107;refine(zgb _ _).mono ?_;rintro e w' ⟨rfl,rfl⟩)
 go_ret;exact⟨rfl,rfl⟩
theorem zu9 {e:List Int}(h:ν e=true)(hl:e.length<=9){t:Int}(ht:0<=t/\t<=15):ν ([t]++e++[19]++[21]++[15-t]++[19])=true:=by
 obtain⟨T,h1,rfl,_,_⟩:=zex h;have hk:(KT.bin false (.star (.bin false (.leaf t) T)) (.leaf (15-t))).ok 0=true:=by simp[KT.ok,h1];omega
 have hs:(KT.bin false (.star (.bin false (.leaf t) T)) (.leaf (15-t))).size<=40:=by
  rw[zaz]at hl;simp[KT.size];omega
 have h2:=zmz hk hs
 simpa [KT.post,KT.op] using h2
theorem zrx(lo hi:Nat)(va:Value)(xs:List Int)(t:Int)(w:World)(hx:SlI lo hi w va xs)(hh:hi<=w)(hm:xs.length<=1000000):
  Calls prog 167 #[.int .i64 t,va] w (za8 λv _ w'=>Below w w w'/\∃ zs:List Int,γ w w' 3 w' v zs/\zs.length<=40/\(0<=t->t<=15->ν xs=true->xs.length<=9->2<=zs.length)):=by
 have HX:=H_ hx;obtain⟨xa,xc,rfl,_,_⟩:=π hx;clear hx;cases h1:inB t 0 15
 ·have HN:=H_ (show ¬(0<=t/\t<=15) by simp[inB] at h1;omega)
  go_enter func167,ntmps167
  go_wp2_with (go_at_call 107;refine(zgb _ _).mono ?_;rintro e w' ⟨rfl,rfl⟩)
  go_ret2
  exact za8.mk _ _ rfl ⟨(B_ _ _).alloc (le_ _) _,[],zer _,by simp,λh2 h3=>absurd ⟨h2,h3⟩ HN.o⟩
 ·have HT:=H_ h1
  cases h2:ν xs
  ·go_enter func167,ntmps167
   go_wp2_with (first | (go_at_call 107;refine(zgb _ _).mono ?_;rintro e w' ⟨rfl,rfl⟩) | (go_at_call 64;refine(zag _ _ _ xs _ HX.o (by omega)).mono ?_;rintro e w' ⟨rfl,rfl⟩))
   go_ret2
   exact za8.mk _ _ rfl ⟨(B_ _ _).alloc (le_ _) _,[],zer _,by simp,λ_ _ h=>by cases h⟩
  ·have HK:=H_ h2
   go_enter func167,ntmps167
   go_wp2_with (first | (go_at_call 107;refine(zgb _ _).mono ?_;rintro e w' ⟨rfl,rfl⟩) | (go_at_call 64;refine(zag _ _ _ xs _ HX.o (by omega)).mono ?_;rintro e w' ⟨rfl,rfl⟩))
   have⟨w1,hw1⟩:=xa_ w #[.int .i64 t] 3;have hb1:Below w w w1:=by rw[hw1];exact(B_ _ _).alloc (le_ _) _
   have OT:Q_ (γ w w1 3 w1 (.slice (q_ w 0) 1 1) [t]):=H_ (by rw[hw1];exact zb0 _ _);simp only[<-hw1];have hs1:w+1<=w1.heap.size:=by rw[hw1];simp
   replace HX:=H_ (HX.o.below hb1 hh);have HB:=H_ hb1;clear hw1 hb1 h1 h2;refine(zaj _ _ _ _ _ _ [t] xs 19 w1 OT.o.sl HX.o (by omega) (by omega) (by simp;omega)).mono ?_;rintro e w2 ⟨v2,rfl,hb2,ho2⟩;have hs2:=hb2.size;replace HB:=HB.tr hb2 (by omega);have hl2:([t]++xs++[19]).length=xs.length+2:=by simp
   have⟨js,hjs⟩:=ex_ ([t]++xs++[19]);rw[<-hjs]at ho2 hl2;have hl2a:=G_ hl2;have hl2b:=G_ hl2.symm;clear hl2;have HJ:=H_ hjs;have O2:=H_ ho2;obtain⟨a2,c2,rfl,_⟩:=θ ho2;clear hb2 ho2 hjs;have hown:=O2.o;go_wp2_with (at_builtin;refine zap w2 rfl _ _ 22 rfl 3 (0:Int) 1 8 underlying22 ω rfl (by decide) (by decide) rfl hown 1 (δ [21]) rfl rfl (Ι _) rfl (by omega) (by omega) ?_)
   intro v3 w3 ho3 hout3 _;have hs3:=hout3.size;have⟨ks,hks⟩:=ex_ (js++[21]);have hl3a:ks.length<=js.length+1:=by rw[hks];simp
   have hl3b:js.length+1<=ks.length:=by rw[hks];simp
   have O3:Q_ (γ w1 w3 3 w3 v3 ks):=H_ (by rw[hks];unfold γ;simpa [δ] using ho3);have HKS:=H_ hks;obtain⟨a3,c3,rfl,_⟩:=θ O3.o;clear hks;replace HB:=H_ (ε HB.o hout3 (by omega) (by omega));clear hown ho3 hout3 O2;have hin:inB t 0 15=true:=HT.o;go_wp2_with (go_at_call 198;refine(zor t _ hin).mono ?_;rintro e w' ⟨rfl,rfl⟩)
   have⟨w4,hw4⟩:=xa_ w3 #[.int .i64 (15-t)] 3;have hb4:Below w3 w3 w4:=by rw[hw4];exact(B_ _ _).alloc (le_ _) _
   have O4:Q_ (γ w3 w4 3 w4 (.slice (q_ w3 0) 1 1) [15-t]):=H_ (by rw[hw4];exact zb0 _ _);simp only[<-hw4];have hs4:w3+1<=w4.heap.size:=by rw[hw4];simp
   replace O3:=H_ (O3.o.below hb4 (le_ _));replace HB:=HB.tr hb4 (by omega);clear hw4 hb4 hin;refine(zaj _ _ _ _ _ _ ks [15-t] 19 w4 O3.o.sl O4.o.sl (by omega) (by omega) (by simp;omega)).mono ?_;rintro e w5 ⟨v5,rfl,hb5,ho5⟩;have hs5:=hb5.size;replace HB:=HB.tr hb5 (by omega);have hl5:(ks++[15-t]++[19]).length=xs.length+5:=by simp;omega
   have HW:=H_ (show 0<=t->t<=15->xs.length<=9->ν (ks++[15-t]++[19])=true from λh3 h4 h5=>by rw[HKS.o,HJ.o];exact zu9 HK.o h5 ⟨h3,h4⟩);generalize ks++[15-t]++[19]=zs at ho5 hl5 HW;have hl5a:=G_ hl5;have hl5b:=G_ hl5.symm;clear hl5;have O5:=H_ ho5;obtain⟨a5,c5,rfl,_⟩:=θ ho5;have hzl:zs.length<=1048576:=by omega
   clear hb5 ho5;cases h5:ν zs
   ·(have H5:=H_ h5);go_wp2_with (go_at_call 64;refine(zag _ _ _ zs _ O5.o.sl hzl).mono ?_;rintro e w' ⟨rfl,rfl⟩)
    go_ret2
    exact za8.mk _ _ rfl ⟨HB.o.trans (((B_ _ _).alloc (le_ _) _).mono (by omega)),[],(zer _).lower (by omega) (le_ _),by simp,λh6 h7 _ h9=>by have:=HW.o h6 h7 h9;rw[H5.o] at this;cases this⟩
   ·(have H5:=H_ (zm8 h5));go_wp2_with (go_at_call 64;refine(zag _ _ _ zs _ O5.o.sl hzl).mono ?_;rintro e w' ⟨rfl,rfl⟩)
    go_ret2
    exact za8.mk _ _ rfl ⟨HB.o,zs,O5.o.lower (by omega) (le_ _),H5.o,λ_ _ _ _=>by omega⟩
theorem z2m(lo hi lo' hi':Nat)(va vb:Value)(xs ys:List Int)(t:Int)(w:World)(hx:SlI lo hi w va xs)(hy:SlI lo' hi' w vb ys)(hh:hi<=w)(hh':hi'<=w)(hm:xs.length+ys.length<=1000000):
  Calls prog 240 #[.int .i64 t,va,vb] w (zn8 w):=by
 have HX:=H_ hx;have HY:=H_ hy;obtain⟨xa,xc,rfl,_,_⟩:=π hx;obtain⟨ya,yc,rfl,_,_⟩:=π hy;clear hx hy;have⟨t1,ht1⟩:=ex_ (inB t 0 15);have HT:=H_ ht1
 go_enter func240,ntmps240
 go_wp2_with fail
 refine(zgb _ _).mono ?_;rintro e _ ⟨rfl,rfl⟩;rw[<-ht1];clear ht1;cases t1
 ·go_wp2
  go_ret2
  exact za8.mk _ _ rfl ⟨(B_ _ _).alloc (le_ _) _,[],zer _,by simp⟩
 go_wp2_with fail
 refine(zag _ _ _ xs _ HX.o (by omega)).mono ?_;rintro e _ ⟨rfl,rfl⟩;cases ν xs
 ·go_wp2
  go_ret2
  exact za8.mk _ _ rfl ⟨(B_ _ _).alloc (le_ _) _,[],zer _,by simp⟩
 go_wp2_with fail
 refine(zag _ _ _ ys _ HY.o (by omega)).mono ?_;rintro e _ ⟨rfl,rfl⟩;cases ν ys
 ·go_wp2
  go_ret2
  exact za8.mk _ _ rfl ⟨(B_ _ _).alloc (le_ _) _,[],zer _,by simp⟩
 go_wp2_with fail
 have⟨w1,hw1⟩:=xa_ w #[.int .i64 t] 3;have hb1:Below w w w1:=by rw[hw1];exact(B_ _ _).alloc (le_ _) _
 have OT:Q_ (γ w w1 3 w1 (.slice (q_ w 0) 1 1) [t]):=H_ (by rw[hw1];exact zb0 _ _);simp only[<-hw1];have hs1:w+1<=w1.heap.size:=by rw[hw1];simp
 replace HX:=H_ (HX.o.below hb1 hh);replace HY:=H_ (HY.o.below hb1 hh');have HB:=H_ hb1;clear hw1 hb1;refine(zaj _ _ _ _ _ _ [t] xs 19 w1 OT.o.sl HX.o (by omega) (by omega) (by simp;omega)).mono ?_;rintro e w2 ⟨v2,rfl,hb2,ho2⟩;have hs2:=hb2.size;replace HB:=HB.tr hb2 (by omega);replace HY:=H_ (HY.o.below hb2 (by omega));have hl2:([t]++xs++[19]).length=xs.length+2:=by simp
 generalize [t]++xs++[19]=js at ho2 hl2;have hl2a:=G_ hl2;have hl2b:=G_ hl2.symm;clear hl2;have O2:=H_ ho2;obtain⟨a2,c2,rfl,_⟩:=θ ho2;clear hb2 ho2;have hin:inB t 0 15=true:=HT.o.symm;go_wp2_with (go_at_call 198;refine(zor t _ hin).mono ?_;rintro e w' ⟨rfl,rfl⟩)
 have⟨w4,hw4⟩:=xa_ w2 #[.int .i64 (15-t)] 3;have hb4:Below w2 w2 w4:=by rw[hw4];exact(B_ _ _).alloc (le_ _) _
 have O4:Q_ (γ w2 w4 3 w4 (.slice (q_ w2 0) 1 1) [15-t]):=H_ (by rw[hw4];exact zb0 _ _);simp only[<-hw4];have hs4:w2+1<=w4.heap.size:=by rw[hw4];simp
 replace O2:=H_ (O2.o.below hb4 (le_ _));replace HY:=H_ (HY.o.below hb4 (by omega));replace HB:=HB.tr hb4 (by omega);clear hw4 hb4 hin;refine(zaj _ _ _ _ _ _ [15-t] ys 19 w4 O4.o.sl HY.o (by omega) (by omega) (by simp;omega)).mono ?_;rintro e w5 ⟨v5,rfl,hb5,ho5⟩;have hs5:=hb5.size;replace HB:=HB.tr hb5 (by omega);replace O2:=H_ (O2.o.below hb5 (by omega));have hl5:([15-t]++ys++[19]).length=ys.length+2:=by simp
 generalize [15-t]++ys++[19]=ks at ho5 hl5;have hl5a:=G_ hl5;have hl5b:=G_ hl5.symm;clear hl5;have O5:=H_ ho5;obtain⟨a5,c5,rfl,_⟩:=θ ho5;clear hb5 ho5;go_wp2_with fail
 refine(zaj _ _ _ _ _ _ js ks 20 w5 O2.o.sl O5.o.sl (by omega) (by omega) (by omega)).mono ?_;rintro e w6 ⟨v6,rfl,hb6,ho6⟩;have hs6:=hb6.size;replace HB:=HB.tr hb6 (by omega);have hl6:(js++ks++[20]).length<=xs.length+ys.length+5:=by simp;omega
 generalize js++ks++[20]=zs at ho6 hl6;have O6:=H_ ho6;obtain⟨a6,c6,rfl,_⟩:=θ ho6;have hzl:zs.length<=1048576:=by omega
 clear hb6 ho6;cases h5:ν zs
 ·go_wp2_with (go_at_call 64;refine(zag _ _ _ zs _ O6.o.sl hzl).mono ?_;rintro e w' ⟨rfl,rfl⟩)
  go_ret2
  exact za8.mk _ _ rfl ⟨HB.o.trans (((B_ _ _).alloc (le_ _) _).mono (by omega)),[],(zer _).lower (by omega) (le_ _),by simp⟩
 ·have H5:=H_ (zm8 h5)
  go_wp2_with (go_at_call 64;refine(zag _ _ _ zs _ O6.o.sl hzl).mono ?_;rintro e w' ⟨rfl,rfl⟩)
  go_ret2
  exact za8.mk _ _ rfl ⟨HB.o,zs,O6.o.lower (by omega) (le_ _),H5.o⟩
theorem zlv(g c:Nat)(w:World)(h:Rd g w c)(hc:c<=200000000):
  Calls prog 220 #[.pointer (q_ g 0),(0:Int)] w (ι λv w'=>zgm g (c+30) w v w' 40):=by
 have hg:=h.lt;have HR:=H_ h;have HO:=H_ (β.refl g (g+1) w);clear h
 go_enter func220,ntmps220
 go_wp2_with fail
 refine(Δ g _ _ _ HR.o (by omega)).mono ?_;rintro e w1 ⟨q1,rfl,i_,h_,r_⟩;obtain⟨i1_q1,i2_q1⟩:=i_.lt (by omega);clear i_;have hs1:=h_.size;replace HO:=H_ (HO.o.trans h_);replace HR:=H_ r_;clear h_ r_;go_wp2_with fail
 have⟨w2,hw_⟩:=xa_ w1 #[.int .i64 (16+q1)] 3;obtain⟨h_,K_,hs2⟩:=Η hw_;have HL_:=H_ hw_;simp only[<-hw_];clear hw_;replace HO:=H_ (HO.o.below h_ (by omega));replace HR:=H_ (HR.o.below h_ (by omega));clear h_;have OA:Q_ (γ w1 w2 3 w2 (.slice (q_ w1 0) 1 1) [16+q1]):=H_ (by rw[HL_.o];exact zb0 _ _);clear HL_ K_
 skip
 refine(Δ g _ _ _ HR.o (by omega)).mono ?_;rintro e w3 ⟨q2,rfl,i_,h_,r_⟩;obtain⟨i1_q2,i2_q2⟩:=i_.lt (by omega);clear i_;have hs3:=h_.size;replace OA:=H_ (OA.o.outside h_ (.inr (by omega)));replace HO:=H_ (HO.o.trans h_);replace HR:=H_ r_;clear h_ r_;obtain⟨y,rfl⟩:∃ y:Nat,q2=y:=⟨q2.toNat,by omega⟩;go_wp2;go_loopw [5,6] (λv i wr=>∃ (j:Nat) (a:Option Addr) (cap:Nat) (xs:List Int),v=.slice a xs cap/\j<=2/\i=.int .i64 j/\xs.length<=40/\Q_ (γ w wr 3 wr (.slice a xs cap) xs/\β g (g+1) w wr/\Rd g wr (c+4+8*(2-j)))) (λ_ i _=>(intOf i).toNat)
 case atStart=>exact⟨y+1,_,_,[16+q1],rfl,by omega,by go_num,by simp,H_ ⟨OA.o.lower (by omega) (by omega),HO.o,HR.o.mono (by omega)⟩⟩
 case round=>
  clear OA HO HR;obtain⟨j,a,cap,xs,rfl,hj,rfl,hlen,HQ⟩:=hrel;have OX:=H_ HQ.o.1;have HO:=H_ HQ.o.2.1;have HR:=H_ HQ.o.2.2;clear HQ;have hsz:=HO.o.size;by_cases hj0:0<j
  ·skip
   go_wp2_with fail
   refine(Δ g _ _ _ HR.o (by omega)).mono ?_;rintro e w4 ⟨q3,rfl,i_,h_,r_⟩;obtain⟨i1_q3,i2_q3⟩:=i_.lt (by omega);clear i_;have hs4:=h_.size;replace OX:=H_ (OX.o.outside h_ (.inr (by omega)));replace HO:=H_ (HO.o.trans h_);replace HR:=H_ r_;clear h_ r_;go_wp2_with fail
   have⟨w5,hw_⟩:=xa_ w4 #[.int .i64 (16+q3)] 3;obtain⟨h_,K_,hs5⟩:=Η hw_;have HL_:=H_ hw_;simp only[<-hw_];clear hw_;replace OX:=H_ (OX.o.below h_ (by omega));replace HO:=H_ (HO.o.below h_ (by omega));replace HR:=H_ (HR.o.below h_ (by omega));clear h_;have ON:Q_ (γ w4 w5 3 w5 (.slice (q_ w4 0) 1 1) [16+q3]):=H_ (by rw[HL_.o];exact zb0 _ _);clear HL_ K_
   skip
   refine(Δ g _ _ _ HR.o (by omega)).mono ?_;rintro e w6 ⟨q7,rfl,i_,h_,r_⟩;obtain⟨i1_q7,i2_q7⟩:=i_.lt (by omega);clear i_;have hs6:=h_.size;replace OX:=H_ (OX.o.outside h_ (.inr (by omega)));replace ON:=H_ (ON.o.outside h_ (.inr (by omega)));replace HO:=H_ (HO.o.trans h_);replace HR:=H_ r_;clear h_ r_;cases hq7:q7==0
   ·skip
    go_wp2_with fail
    refine(zf0 _ _ _ _ _ _ xs [16+q3] _ OX.o.sl ON.o.sl (by omega) (by omega) (by first | omega | (simp;omega))).mono ?_;rintro e w7 ⟨vt,okt,rfl,h_,zt,ot,lt_⟩;have hs7:=h_.size;replace OX:=H_ (OX.o.below h_ (by omega));replace ON:=H_ (ON.o.below h_ (by omega));replace HO:=H_ (HO.o.below h_ (by omega));replace HR:=H_ (HR.o.below h_ (by omega));have OT:=H_ (ot);obtain⟨at_,ct_,rfl,_⟩:=θ ot;clear ot;clear h_;go_wp2_with fail
    refine(Δ g _ _ _ HR.o (by omega)).mono ?_;rintro e w8 ⟨q4,rfl,i_,h_,r_⟩;obtain⟨i1_q4,i2_q4⟩:=i_.lt (by omega);clear i_;have hs8:=h_.size;replace OX:=H_ (OX.o.outside h_ (.inr (by omega)));replace ON:=H_ (ON.o.outside h_ (.inr (by omega)));replace OT:=H_ (OT.o.outside h_ (.inr (by omega)));replace HO:=H_ (HO.o.trans h_);replace HR:=H_ r_;clear h_ r_;cases hq4:q4==0
    ·cases okt
     ·go_wp2
      go_roundw
      (case rel=>exact⟨j-1,_,_,xs,by first | rfl | simp,by omega,by go_num,by first | assumption | simp | omega,H_ ⟨OX.o.lower (by omega) (by omega),HO.o,HR.o.mono (by omega)⟩⟩);case measure=>simp[intOf];omega
     ·go_wp2
      go_roundw
      (case rel=>exact⟨j-1,_,_,zt,by first | rfl | simp,by omega,by go_num,by first | assumption | simp | omega,H_ ⟨OT.o.lower (by omega) (by omega),HO.o,HR.o.mono (by omega)⟩⟩);case measure=>simp[intOf];omega
    ·go_wp2
     go_roundw
     (case rel=>exact⟨j-1,_,_,[16+q3],by first | rfl | simp,by omega,by go_num,by first | assumption | simp | omega,H_ ⟨ON.o.lower (by omega) (by omega),HO.o,HR.o.mono (by omega)⟩⟩);case measure=>simp[intOf];omega
   ·go_wp2_with fail
    (have⟨w7,hw_⟩:=xa_ w6 #[(15:Int)] 3;obtain⟨h_,K_,hs7⟩:=Η hw_;have HL_:=H_ hw_;simp only[<-hw_];clear hw_;replace OX:=H_ (OX.o.below h_ (by omega));replace ON:=H_ (ON.o.below h_ (by omega));replace HO:=H_ (HO.o.below h_ (by omega));replace HR:=H_ (HR.o.below h_ (by omega));clear h_;have OF:Q_ (γ w6 w7 3 w7 (.slice (q_ w6 0) 1 1) [15]):=H_ (by rw[HL_.o];exact zb0 _ _);clear HL_ K_)
    skip
    refine(zf0 _ _ _ _ _ _ xs [15] _ OX.o.sl OF.o.sl (by omega) (by omega) (by first | omega | (simp;omega))).mono ?_;rintro e w8 ⟨vt,okt,rfl,h_,zt,ot,lt_⟩;have hs8:=h_.size;replace OX:=H_ (OX.o.below h_ (by omega));replace ON:=H_ (ON.o.below h_ (by omega));replace OF:=H_ (OF.o.below h_ (by omega));replace HO:=H_ (HO.o.below h_ (by omega));replace HR:=H_ (HR.o.below h_ (by omega));have OT:=H_ (ot);obtain⟨at_,ct_,rfl,_⟩:=θ ot;clear ot;clear h_;go_wp2_with fail
    refine(Δ g _ _ _ HR.o (by omega)).mono ?_;rintro e w9 ⟨q4,rfl,i_,h_,r_⟩;obtain⟨i1_q4,i2_q4⟩:=i_.lt (by omega);clear i_;have hs9:=h_.size;replace OX:=H_ (OX.o.outside h_ (.inr (by omega)));replace ON:=H_ (ON.o.outside h_ (.inr (by omega)));replace OF:=H_ (OF.o.outside h_ (.inr (by omega)));replace OT:=H_ (OT.o.outside h_ (.inr (by omega)));replace HO:=H_ (HO.o.trans h_);replace HR:=H_ r_;clear h_ r_;cases hq4:q4==0
    ·cases okt
     ·go_wp2
      go_roundw
      (case rel=>exact⟨j-1,_,_,xs,by first | rfl | simp,by omega,by go_num,by first | assumption | simp | omega,H_ ⟨OX.o.lower (by omega) (by omega),HO.o,HR.o.mono (by omega)⟩⟩);case measure=>simp[intOf];omega
     ·go_wp2
      go_roundw
      (case rel=>exact⟨j-1,_,_,zt,by first | rfl | simp,by omega,by go_num,by first | assumption | simp | omega,H_ ⟨OT.o.lower (by omega) (by omega),HO.o,HR.o.mono (by omega)⟩⟩);case measure=>simp[intOf];omega
    ·go_wp2
     go_roundw
     (case rel=>exact⟨j-1,_,_,[15],by first | rfl | simp,by omega,by go_num,by first | assumption | simp | omega,H_ ⟨OF.o.lower (by omega) (by omega),HO.o,HR.o.mono (by omega)⟩⟩);case measure=>simp[intOf];omega
  ·go_wp2
   go_ret;exact ι.mk _ rfl ⟨xs,OX.o,hlen,HO.o,HR.o.mono (by omega)⟩
theorem zvx(g c:Nat)(w:World)(h:Rd g w c)(hc:c<=100000000):
  Calls prog 220 #[.pointer (q_ g 0),(1:Int)] w (ι λv w'=>zgm g (c+180) w v w' 40):=by
 have hg:=h.lt;have HR:=H_ h;have HO:=H_ (β.refl g (g+1) w);clear h
 go_enter func220,ntmps220
 go_wp2_with fail
 refine(Δ g _ _ _ HR.o (by omega)).mono ?_;rintro e w1 ⟨q1,rfl,i_,h_,r_⟩;obtain⟨i1_q1,i2_q1⟩:=i_.lt (by omega);clear i_;have hs1:=h_.size;replace HO:=H_ (HO.o.trans h_);replace HR:=H_ r_;clear h_ r_;go_wp2_with fail
 have⟨w2,hw_⟩:=xa_ w1 #[.int .i64 (16+q1)] 3;obtain⟨h_,K_,hs2⟩:=Η hw_;have HL_:=H_ hw_;simp only[<-hw_];clear hw_;replace HO:=H_ (HO.o.below h_ (by omega));replace HR:=H_ (HR.o.below h_ (by omega));clear h_;have OA:Q_ (γ w1 w2 3 w2 (.slice (q_ w1 0) 1 1) [16+q1]):=H_ (by rw[HL_.o];exact zb0 _ _);clear HL_ K_
 skip
 refine(Δ g _ _ _ HR.o (by omega)).mono ?_;rintro e w3 ⟨q2,rfl,i_,h_,r_⟩;obtain⟨i1_q2,i2_q2⟩:=i_.lt (by omega);clear i_;have hs3:=h_.size;replace OA:=H_ (OA.o.outside h_ (.inr (by omega)));replace HO:=H_ (HO.o.trans h_);replace HR:=H_ r_;clear h_ r_;obtain⟨y,rfl⟩:∃ y:Nat,q2=y:=⟨q2.toNat,by omega⟩;go_wp2;go_loopw [5,6] (λv i wr=>∃ (j:Nat) (a:Option Addr) (cap:Nat) (xs:List Int),v=.slice a xs cap/\j<=2/\i=.int .i64 j/\xs.length<=40/\Q_ (γ w wr 3 wr (.slice a xs cap) xs/\β g (g+1) w wr/\Rd g wr (c+4+80*(2-j)))) (λ_ i _=>(intOf i).toNat)
 case atStart=>exact⟨y+1,_,_,[16+q1],rfl,by omega,by go_num,by simp,H_ ⟨OA.o.lower (by omega) (by omega),HO.o,HR.o.mono (by omega)⟩⟩
 case round=>
  clear OA HO HR;obtain⟨j,a,cap,xs,rfl,hj,rfl,hlen,HQ⟩:=hrel;have OX:=H_ HQ.o.1;have HO:=H_ HQ.o.2.1;have HR:=H_ HQ.o.2.2;clear HQ;have hsz:=HO.o.size;by_cases hj0:0<j
  ·skip
   go_wp2_with fail
   refine(Δ g _ _ _ HR.o (by omega)).mono ?_;rintro e w4 ⟨q3,rfl,i_,h_,r_⟩;obtain⟨i1_q3,i2_q3⟩:=i_.lt (by omega);clear i_;have hs4:=h_.size;replace OX:=H_ (OX.o.outside h_ (.inr (by omega)));replace HO:=H_ (HO.o.trans h_);replace HR:=H_ r_;clear h_ r_;go_wp2_with fail
   have⟨w5,hw_⟩:=xa_ w4 #[.int .i64 (16+q3)] 3;obtain⟨h_,K_,hs5⟩:=Η hw_;have HL_:=H_ hw_;simp only[<-hw_];clear hw_;replace OX:=H_ (OX.o.below h_ (by omega));replace HO:=H_ (HO.o.below h_ (by omega));replace HR:=H_ (HR.o.below h_ (by omega));clear h_;have ON:Q_ (γ w4 w5 3 w5 (.slice (q_ w4 0) 1 1) [16+q3]):=H_ (by rw[HL_.o];exact zb0 _ _);clear HL_ K_
   skip
   refine(Δ g _ _ _ HR.o (by omega)).mono ?_;rintro e w6 ⟨q5,rfl,i_,h_,r_⟩;obtain⟨i1_q5,i2_q5⟩:=i_.lt (by omega);clear i_;have hs6:=h_.size;replace OX:=H_ (OX.o.outside h_ (.inr (by omega)));replace ON:=H_ (ON.o.outside h_ (.inr (by omega)));replace HO:=H_ (HO.o.trans h_);replace HR:=H_ r_;clear h_ r_;cases hq5:q5==0
   ·skip
    go_wp2_with fail
    refine(Δ g _ _ _ HR.o (by omega)).mono ?_;rintro e w7 ⟨q6,rfl,i_,h_,r_⟩;obtain⟨i1_q6,i2_q6⟩:=i_.lt (by omega);clear i_;have hs7:=h_.size;replace OX:=H_ (OX.o.outside h_ (.inr (by omega)));replace ON:=H_ (ON.o.outside h_ (.inr (by omega)));replace HO:=H_ (HO.o.trans h_);replace HR:=H_ r_;clear h_ r_;cases hq6:q6==0
    ·skip
     go_wp2_with fail
     refine(Δ g _ _ _ HR.o (by omega)).mono ?_;rintro e w8 ⟨q7,rfl,i_,h_,r_⟩;obtain⟨i1_q7,i2_q7⟩:=i_.lt (by omega);clear i_;have hs8:=h_.size;replace OX:=H_ (OX.o.outside h_ (.inr (by omega)));replace ON:=H_ (ON.o.outside h_ (.inr (by omega)));replace HO:=H_ (HO.o.trans h_);replace HR:=H_ r_;clear h_ r_;cases hq7:q7==0
     ·skip
      go_wp2_with fail
      refine(zf0 _ _ _ _ _ _ xs [16+q3] _ OX.o.sl ON.o.sl (by omega) (by omega) (by first | omega | (simp;omega))).mono ?_;rintro e w9 ⟨vt,okt,rfl,h_,zt,ot,lt_⟩;have hs9:=h_.size;replace OX:=H_ (OX.o.below h_ (by omega));replace ON:=H_ (ON.o.below h_ (by omega));replace HO:=H_ (HO.o.below h_ (by omega));replace HR:=H_ (HR.o.below h_ (by omega));have OT:=H_ (ot);obtain⟨at_,ct_,rfl,_⟩:=θ ot;clear ot;clear h_;go_wp2_with fail
      refine(Δ g _ _ _ HR.o (by omega)).mono ?_;rintro e w10 ⟨q4,rfl,i_,h_,r_⟩;obtain⟨i1_q4,i2_q4⟩:=i_.lt (by omega);clear i_;have hs10:=h_.size;replace OX:=H_ (OX.o.outside h_ (.inr (by omega)));replace ON:=H_ (ON.o.outside h_ (.inr (by omega)));replace OT:=H_ (OT.o.outside h_ (.inr (by omega)));replace HO:=H_ (HO.o.trans h_);replace HR:=H_ r_;clear h_ r_;cases hq4:q4==0
      ·cases okt
       ·go_wp2
        go_roundw
        (case rel=>exact⟨j-1,_,_,xs,by first | rfl | simp,by omega,by go_num,by first | assumption | simp | omega,H_ ⟨OX.o.lower (by omega) (by omega),HO.o,HR.o.mono (by omega)⟩⟩);case measure=>simp[intOf];omega
       ·go_wp2
        go_roundw
        (case rel=>exact⟨j-1,_,_,zt,by first | rfl | simp,by omega,by go_num,by first | assumption | simp | omega,H_ ⟨OT.o.lower (by omega) (by omega),HO.o,HR.o.mono (by omega)⟩⟩);case measure=>simp[intOf];omega
      ·go_wp2
       go_roundw
       (case rel=>exact⟨j-1,_,_,[16+q3],by first | rfl | simp,by omega,by go_num,by first | assumption | simp | omega,H_ ⟨ON.o.lower (by omega) (by omega),HO.o,HR.o.mono (by omega)⟩⟩);case measure=>simp[intOf];omega
     ·go_wp2_with fail
      (have⟨w9,hw_⟩:=xa_ w8 #[(15:Int)] 3;obtain⟨h_,K_,hs9⟩:=Η hw_;have HL_:=H_ hw_;simp only[<-hw_];clear hw_;replace OX:=H_ (OX.o.below h_ (by omega));replace ON:=H_ (ON.o.below h_ (by omega));replace HO:=H_ (HO.o.below h_ (by omega));replace HR:=H_ (HR.o.below h_ (by omega));clear h_;have OF:Q_ (γ w8 w9 3 w9 (.slice (q_ w8 0) 1 1) [15]):=H_ (by rw[HL_.o];exact zb0 _ _);clear HL_ K_)
      skip
      refine(zf0 _ _ _ _ _ _ xs [15] _ OX.o.sl OF.o.sl (by omega) (by omega) (by first | omega | (simp;omega))).mono ?_;rintro e w10 ⟨vt,okt,rfl,h_,zt,ot,lt_⟩;have hs10:=h_.size;replace OX:=H_ (OX.o.below h_ (by omega));replace ON:=H_ (ON.o.below h_ (by omega));replace OF:=H_ (OF.o.below h_ (by omega));replace HO:=H_ (HO.o.below h_ (by omega));replace HR:=H_ (HR.o.below h_ (by omega));have OT:=H_ (ot);obtain⟨at_,ct_,rfl,_⟩:=θ ot;clear ot;clear h_;go_wp2_with fail
      refine(Δ g _ _ _ HR.o (by omega)).mono ?_;rintro e w11 ⟨q4,rfl,i_,h_,r_⟩;obtain⟨i1_q4,i2_q4⟩:=i_.lt (by omega);clear i_;have hs11:=h_.size;replace OX:=H_ (OX.o.outside h_ (.inr (by omega)));replace ON:=H_ (ON.o.outside h_ (.inr (by omega)));replace OF:=H_ (OF.o.outside h_ (.inr (by omega)));replace OT:=H_ (OT.o.outside h_ (.inr (by omega)));replace HO:=H_ (HO.o.trans h_);replace HR:=H_ r_;clear h_ r_;cases hq4:q4==0
      ·cases okt
       ·go_wp2
        go_roundw
        (case rel=>exact⟨j-1,_,_,xs,by first | rfl | simp,by omega,by go_num,by first | assumption | simp | omega,H_ ⟨OX.o.lower (by omega) (by omega),HO.o,HR.o.mono (by omega)⟩⟩);case measure=>simp[intOf];omega
       ·go_wp2
        go_roundw
        (case rel=>exact⟨j-1,_,_,zt,by first | rfl | simp,by omega,by go_num,by first | assumption | simp | omega,H_ ⟨OT.o.lower (by omega) (by omega),HO.o,HR.o.mono (by omega)⟩⟩);case measure=>simp[intOf];omega
      ·go_wp2
       go_roundw
       (case rel=>exact⟨j-1,_,_,[15],by first | rfl | simp,by omega,by go_num,by first | assumption | simp | omega,H_ ⟨OF.o.lower (by omega) (by omega),HO.o,HR.o.mono (by omega)⟩⟩);case measure=>simp[intOf];omega
    ·skip
     go_wp2_with fail
     refine(zkp g _ 0 _ HR.o (by omega) (by omega)).mono ?_;rintro e w8 ⟨t1,rfl,⟨i0_t1,i1_t1,i2_t1⟩,h_,r_⟩;have hs8:=h_.size;replace OX:=H_ (OX.o.outside h_ (.inr (by omega)));replace ON:=H_ (ON.o.outside h_ (.inr (by omega)));replace HO:=H_ (HO.o.trans h_);replace HR:=H_ r_;clear h_ r_;go_wp2_with fail
     refine(zlv g _ _ HR.o (by omega)).mono ?_;rintro e w9 ⟨v_OB,rfl,bs,o_,l_bs,h_,r_⟩;have hs9:=h_.size;replace OX:=H_ (OX.o.outside h_ (.inr (by omega)));replace ON:=H_ (ON.o.outside h_ (.inr (by omega)));replace HO:=H_ (HO.o.trans h_);replace HR:=H_ r_;clear h_ r_;have OB:=H_ o_;clear o_;obtain⟨a_OB,c_OB,rfl,_,_⟩:=π OB.o.sl;go_wp2_with fail
     refine(zrx _ _ _ bs t1 _ OB.o.sl (by omega) (by omega)).mono ?_;rintro e w10 ⟨vk,okk,rfl,h_,ks,ok_,lk_,_⟩;have hs10:=h_.size;replace OX:=H_ (OX.o.below h_ (by omega));replace ON:=H_ (ON.o.below h_ (by omega));replace OB:=H_ (OB.o.below h_ (by omega));replace HO:=H_ (HO.o.below h_ (by omega));replace HR:=H_ (HR.o.below h_ (by omega));have OK:=H_ (ok_);obtain⟨ak_,ck_,rfl,_⟩:=θ ok_;clear ok_;clear h_;cases okk
     ·skip
      go_wp2_with fail
      refine(zf0 _ _ _ _ _ _ xs [16+q3] _ OX.o.sl ON.o.sl (by omega) (by omega) (by first | omega | (simp;omega))).mono ?_;rintro e w11 ⟨vt,okt,rfl,h_,zt,ot,lt_⟩;have hs11:=h_.size;replace OX:=H_ (OX.o.below h_ (by omega));replace ON:=H_ (ON.o.below h_ (by omega));replace OB:=H_ (OB.o.below h_ (by omega));replace OK:=H_ (OK.o.below h_ (by omega));replace HO:=H_ (HO.o.below h_ (by omega));replace HR:=H_ (HR.o.below h_ (by omega));have OT:=H_ (ot);obtain⟨at_,ct_,rfl,_⟩:=θ ot;clear ot;clear h_;go_wp2_with fail
      refine(Δ g _ _ _ HR.o (by omega)).mono ?_;rintro e w12 ⟨q4,rfl,i_,h_,r_⟩;obtain⟨i1_q4,i2_q4⟩:=i_.lt (by omega);clear i_;have hs12:=h_.size;replace OX:=H_ (OX.o.outside h_ (.inr (by omega)));replace ON:=H_ (ON.o.outside h_ (.inr (by omega)));replace OB:=H_ (OB.o.outside h_ (.inr (by omega)));replace OK:=H_ (OK.o.outside h_ (.inr (by omega)));replace OT:=H_ (OT.o.outside h_ (.inr (by omega)));replace HO:=H_ (HO.o.trans h_);replace HR:=H_ r_;clear h_ r_;cases hq4:q4==0
      ·cases okt
       ·go_wp2
        go_roundw
        (case rel=>exact⟨j-1,_,_,xs,by first | rfl | simp,by omega,by go_num,by first | assumption | simp | omega,H_ ⟨OX.o.lower (by omega) (by omega),HO.o,HR.o.mono (by omega)⟩⟩);case measure=>simp[intOf];omega
       ·go_wp2
        go_roundw
        (case rel=>exact⟨j-1,_,_,zt,by first | rfl | simp,by omega,by go_num,by first | assumption | simp | omega,H_ ⟨OT.o.lower (by omega) (by omega),HO.o,HR.o.mono (by omega)⟩⟩);case measure=>simp[intOf];omega
      ·go_wp2
       go_roundw
       (case rel=>exact⟨j-1,_,_,[16+q3],by first | rfl | simp,by omega,by go_num,by first | assumption | simp | omega,H_ ⟨ON.o.lower (by omega) (by omega),HO.o,HR.o.mono (by omega)⟩⟩);case measure=>simp[intOf];omega
     ·skip
      go_wp2_with fail
      refine(zf0 _ _ _ _ _ _ xs ks _ OX.o.sl OK.o.sl (by omega) (by omega) (by first | omega | (simp;omega))).mono ?_;rintro e w11 ⟨vt,okt,rfl,h_,zt,ot,lt_⟩;have hs11:=h_.size;replace OX:=H_ (OX.o.below h_ (by omega));replace ON:=H_ (ON.o.below h_ (by omega));replace OB:=H_ (OB.o.below h_ (by omega));replace OK:=H_ (OK.o.below h_ (by omega));replace HO:=H_ (HO.o.below h_ (by omega));replace HR:=H_ (HR.o.below h_ (by omega));have OT:=H_ (ot);obtain⟨at_,ct_,rfl,_⟩:=θ ot;clear ot;clear h_;go_wp2_with fail
      refine(Δ g _ _ _ HR.o (by omega)).mono ?_;rintro e w12 ⟨q4,rfl,i_,h_,r_⟩;obtain⟨i1_q4,i2_q4⟩:=i_.lt (by omega);clear i_;have hs12:=h_.size;replace OX:=H_ (OX.o.outside h_ (.inr (by omega)));replace ON:=H_ (ON.o.outside h_ (.inr (by omega)));replace OB:=H_ (OB.o.outside h_ (.inr (by omega)));replace OK:=H_ (OK.o.outside h_ (.inr (by omega)));replace OT:=H_ (OT.o.outside h_ (.inr (by omega)));replace HO:=H_ (HO.o.trans h_);replace HR:=H_ r_;clear h_ r_;cases hq4:q4==0
      ·cases okt
       ·go_wp2
        go_roundw
        (case rel=>exact⟨j-1,_,_,xs,by first | rfl | simp,by omega,by go_num,by first | assumption | simp | omega,H_ ⟨OX.o.lower (by omega) (by omega),HO.o,HR.o.mono (by omega)⟩⟩);case measure=>simp[intOf];omega
       ·go_wp2
        go_roundw
        (case rel=>exact⟨j-1,_,_,zt,by first | rfl | simp,by omega,by go_num,by first | assumption | simp | omega,H_ ⟨OT.o.lower (by omega) (by omega),HO.o,HR.o.mono (by omega)⟩⟩);case measure=>simp[intOf];omega
      ·go_wp2
       go_roundw
       (case rel=>exact⟨j-1,_,_,ks,by first | rfl | simp,by omega,by go_num,by first | assumption | simp | omega,H_ ⟨OK.o.lower (by omega) (by omega),HO.o,HR.o.mono (by omega)⟩⟩);case measure=>simp[intOf];omega
   ·skip
    go_wp2_with fail
    refine(zkp g _ 0 _ HR.o (by omega) (by omega)).mono ?_;rintro e w7 ⟨t1,rfl,⟨i0_t1,i1_t1,i2_t1⟩,h_,r_⟩;have hs7:=h_.size;replace OX:=H_ (OX.o.outside h_ (.inr (by omega)));replace ON:=H_ (ON.o.outside h_ (.inr (by omega)));replace HO:=H_ (HO.o.trans h_);replace HR:=H_ r_;clear h_ r_;go_wp2_with fail
    refine(zlv g _ _ HR.o (by omega)).mono ?_;rintro e w8 ⟨v_OB,rfl,bs,o_,l_bs,h_,r_⟩;have hs8:=h_.size;replace OX:=H_ (OX.o.outside h_ (.inr (by omega)));replace ON:=H_ (ON.o.outside h_ (.inr (by omega)));replace HO:=H_ (HO.o.trans h_);replace HR:=H_ r_;clear h_ r_;have OB:=H_ o_;clear o_;obtain⟨a_OB,c_OB,rfl,_,_⟩:=π OB.o.sl;go_wp2_with fail
    refine(zlv g _ _ HR.o (by omega)).mono ?_;rintro e w9 ⟨v_OC,rfl,ds,o_,l_ds,h_,r_⟩;have hs9:=h_.size;replace OX:=H_ (OX.o.outside h_ (.inr (by omega)));replace ON:=H_ (ON.o.outside h_ (.inr (by omega)));replace OB:=H_ (OB.o.outside h_ (.inr (by omega)));replace HO:=H_ (HO.o.trans h_);replace HR:=H_ r_;clear h_ r_;have OC:=H_ o_;clear o_;obtain⟨a_OC,c_OC,rfl,_,_⟩:=π OC.o.sl;go_wp2_with fail
    refine(z2m _ _ _ _ _ _ bs ds t1 _ OB.o.sl OC.o.sl (by omega) (by omega) (by omega)).mono ?_;rintro e w10 ⟨vk,okk,rfl,h_,ks,ok_,lk_⟩;have hs10:=h_.size;replace OX:=H_ (OX.o.below h_ (by omega));replace ON:=H_ (ON.o.below h_ (by omega));replace OB:=H_ (OB.o.below h_ (by omega));replace OC:=H_ (OC.o.below h_ (by omega));replace HO:=H_ (HO.o.below h_ (by omega));replace HR:=H_ (HR.o.below h_ (by omega));have OK:=H_ (ok_);obtain⟨ak_,ck_,rfl,_⟩:=θ ok_;clear ok_;clear h_;cases okk
    ·skip
     go_wp2_with fail
     refine(zf0 _ _ _ _ _ _ xs [16+q3] _ OX.o.sl ON.o.sl (by omega) (by omega) (by first | omega | (simp;omega))).mono ?_;rintro e w11 ⟨vt,okt,rfl,h_,zt,ot,lt_⟩;have hs11:=h_.size;replace OX:=H_ (OX.o.below h_ (by omega));replace ON:=H_ (ON.o.below h_ (by omega));replace OB:=H_ (OB.o.below h_ (by omega));replace OC:=H_ (OC.o.below h_ (by omega));replace OK:=H_ (OK.o.below h_ (by omega));replace HO:=H_ (HO.o.below h_ (by omega));replace HR:=H_ (HR.o.below h_ (by omega));have OT:=H_ (ot);obtain⟨at_,ct_,rfl,_⟩:=θ ot;clear ot;clear h_;go_wp2_with fail
     refine(Δ g _ _ _ HR.o (by omega)).mono ?_;rintro e w12 ⟨q4,rfl,i_,h_,r_⟩;obtain⟨i1_q4,i2_q4⟩:=i_.lt (by omega);clear i_;have hs12:=h_.size;replace OX:=H_ (OX.o.outside h_ (.inr (by omega)));replace ON:=H_ (ON.o.outside h_ (.inr (by omega)));replace OB:=H_ (OB.o.outside h_ (.inr (by omega)));replace OC:=H_ (OC.o.outside h_ (.inr (by omega)));replace OK:=H_ (OK.o.outside h_ (.inr (by omega)));replace OT:=H_ (OT.o.outside h_ (.inr (by omega)));replace HO:=H_ (HO.o.trans h_);replace HR:=H_ r_;clear h_ r_;cases hq4:q4==0
     ·cases okt
      ·go_wp2
       go_roundw
       (case rel=>exact⟨j-1,_,_,xs,by first | rfl | simp,by omega,by go_num,by first | assumption | simp | omega,H_ ⟨OX.o.lower (by omega) (by omega),HO.o,HR.o.mono (by omega)⟩⟩);case measure=>simp[intOf];omega
      ·go_wp2
       go_roundw
       (case rel=>exact⟨j-1,_,_,zt,by first | rfl | simp,by omega,by go_num,by first | assumption | simp | omega,H_ ⟨OT.o.lower (by omega) (by omega),HO.o,HR.o.mono (by omega)⟩⟩);case measure=>simp[intOf];omega
     ·go_wp2
      go_roundw
      (case rel=>exact⟨j-1,_,_,[16+q3],by first | rfl | simp,by omega,by go_num,by first | assumption | simp | omega,H_ ⟨ON.o.lower (by omega) (by omega),HO.o,HR.o.mono (by omega)⟩⟩);case measure=>simp[intOf];omega
    ·skip
     go_wp2_with fail
     refine(zf0 _ _ _ _ _ _ xs ks _ OX.o.sl OK.o.sl (by omega) (by omega) (by first | omega | (simp;omega))).mono ?_;rintro e w11 ⟨vt,okt,rfl,h_,zt,ot,lt_⟩;have hs11:=h_.size;replace OX:=H_ (OX.o.below h_ (by omega));replace ON:=H_ (ON.o.below h_ (by omega));replace OB:=H_ (OB.o.below h_ (by omega));replace OC:=H_ (OC.o.below h_ (by omega));replace OK:=H_ (OK.o.below h_ (by omega));replace HO:=H_ (HO.o.below h_ (by omega));replace HR:=H_ (HR.o.below h_ (by omega));have OT:=H_ (ot);obtain⟨at_,ct_,rfl,_⟩:=θ ot;clear ot;clear h_;go_wp2_with fail
     refine(Δ g _ _ _ HR.o (by omega)).mono ?_;rintro e w12 ⟨q4,rfl,i_,h_,r_⟩;obtain⟨i1_q4,i2_q4⟩:=i_.lt (by omega);clear i_;have hs12:=h_.size;replace OX:=H_ (OX.o.outside h_ (.inr (by omega)));replace ON:=H_ (ON.o.outside h_ (.inr (by omega)));replace OB:=H_ (OB.o.outside h_ (.inr (by omega)));replace OC:=H_ (OC.o.outside h_ (.inr (by omega)));replace OK:=H_ (OK.o.outside h_ (.inr (by omega)));replace OT:=H_ (OT.o.outside h_ (.inr (by omega)));replace HO:=H_ (HO.o.trans h_);replace HR:=H_ r_;clear h_ r_;cases hq4:q4==0
     ·cases okt
      ·go_wp2
       go_roundw
       (case rel=>exact⟨j-1,_,_,xs,by first | rfl | simp,by omega,by go_num,by first | assumption | simp | omega,H_ ⟨OX.o.lower (by omega) (by omega),HO.o,HR.o.mono (by omega)⟩⟩);case measure=>simp[intOf];omega
      ·go_wp2
       go_roundw
       (case rel=>exact⟨j-1,_,_,zt,by first | rfl | simp,by omega,by go_num,by first | assumption | simp | omega,H_ ⟨OT.o.lower (by omega) (by omega),HO.o,HR.o.mono (by omega)⟩⟩);case measure=>simp[intOf];omega
     ·go_wp2
      go_roundw
      (case rel=>exact⟨j-1,_,_,ks,by first | rfl | simp,by omega,by go_num,by first | assumption | simp | omega,H_ ⟨OK.o.lower (by omega) (by omega),HO.o,HR.o.mono (by omega)⟩⟩);case measure=>simp[intOf];omega
  ·go_wp2
   go_ret;exact ι.mk _ rfl ⟨xs,OX.o,hlen,HO.o,HR.o.mono (by omega)⟩
theorem zzg(g c:Nat)(parts n:Int)(w:World)(h:Rd g w c)(hc:c<=50000000)(hp0:0<=parts)(hp:parts<=20)(hn:n<=1000):
  Calls prog 196 #[.pointer (q_ g 0),.int .i64 parts,.int .i64 n] w (ι λv w'=>zgm g (c+500) w v w' 44):=by
 have hg:=h.lt;have HR:=H_ h;have HO:=H_ (β.refl g (g+1) w);clear h
 go_enter func196,ntmps196
 go_wp2_with fail
 refine(Δ g _ _ _ HR.o (by omega)).mono ?_;rintro e w1 ⟨q,rfl,i_,h_,r_⟩;obtain⟨i1_q,i2_q⟩:=i_.lt (by omega);clear i_;have hs1:=h_.size;replace HO:=H_ (HO.o.trans h_);replace HR:=H_ r_;clear h_ r_;cases hq:q==0
 ·skip
  go_wp2_with fail
  refine(zm5 g _ parts n _ HR.o (by omega) hp0 hp (by omega)).mono ?_;rintro e w2 ⟨v_OK,rfl,ks,o_,l_ks,h_,r_⟩;have hs2:=h_.size;replace HO:=H_ (HO.o.trans h_);replace HR:=H_ r_;clear h_ r_;have OK:=H_ o_;clear o_;obtain⟨a_OK,c_OK,rfl,_,_⟩:=π OK.o.sl;go_wp2;go_ret;exact ι.mk _ rfl ⟨ks,OK.o.lower (by omega) (by omega),by omega,HO.o,HR.o.mono (by omega)⟩
 ·skip
  go_wp2_with fail
  refine(zvx g _ _ HR.o (by omega)).mono ?_;rintro e w2 ⟨v_OK,rfl,ks,o_,l_ks,h_,r_⟩;have hs2:=h_.size;replace HO:=H_ (HO.o.trans h_);replace HR:=H_ r_;clear h_ r_;have OK:=H_ o_;clear o_;obtain⟨a_OK,c_OK,rfl,_,_⟩:=π OK.o.sl;go_wp2;go_ret;exact ι.mk _ rfl ⟨ks,OK.o.lower (by omega) (by omega),by omega,HO.o,HR.o.mono (by omega)⟩
theorem zv2(g c:Nat)(n:Int)(w:World)(h:Rd g w c)(hc:c<=50000000)(hn:n<=1000):
  Calls prog 196 #[.pointer (q_ g 0),(3:Int),.int .i64 n] w (ι λv w'=>zgm g (c+500) w v w' 44):=
 zzg g c 3 n w h hc (by omega) (by omega) hn
theorem zoq(g c:Nat)(n:Int)(w:World)(h:Rd g w c)(hc:c<=40000000)(hn:n<=1000):
  Calls prog 166 #[.pointer (q_ g 0),.int .i64 n] w (ι λv w'=>zgm g (c+500) w v w' 44):=by
 have hg:=h.lt;have HR:=H_ h;have HO:=H_ (β.refl g (g+1) w);clear h
 go_enter func166,ntmps166
 go_wp2_with fail
 refine(zv2 g _ n _ HR.o (by omega) hn).mono ?_;rintro e w1 ⟨v_OK,rfl,ks,o_,l_ks,h_,r_⟩;have hs1:=h_.size;replace HO:=H_ (HO.o.trans h_);replace HR:=H_ r_;clear h_ r_;have OK:=H_ o_;clear o_;obtain⟨a_OK,c_OK,rfl,_,_⟩:=π OK.o.sl;go_wp2_with fail
 refine(zxo _ _ _ ks _ OK.o.sl (by omega)).mono ?_;rintro e _ ⟨x,rfl,rfl⟩;by_cases hx:4<x
 ·go_wp2
  go_ret;have h4:γ w1 (w1.alloc (.cells #[(16:Int),(17:Int),(20:Int),(21:Int)] 3)).heap.size 3 (w1.alloc (.cells #[(16:Int),(17:Int),(20:Int),(21:Int)] 3)) (.slice (q_ w1 0) 4 4) [16,17,20,21]:=zf9 (ς 1 3 w1 (δ [16,17,20,21]) 4 (by omega) rfl) (by simp);exact ι.mk _ rfl ⟨_,h4.lower (by omega) (le_ _),by simp,HO.o.below ((B_ _ _).alloc (le_ _) _) (by omega),(HR.o.alloc _).mono (by omega)⟩
 ·skip
  go_wp2;go_ret;exact ι.mk _ rfl ⟨ks,OK.o.lower (by omega) (by omega),by omega,HO.o,HR.o.mono (by omega)⟩
section
theorem zf2:(Tryz.prog.info? 139).map (λi=>(i.zero,i.size,i.bytes))=some (some (.pointer none),1,8):=by kernel_rfl
section
variable {P:Program} {w:World} {ops:Array Oper} {rest:List Oper} {o:Oper} {a:Act} {Q:Exit->Act->World->Prop}
theorem zbn(w0:World)(hgd:o.guard=none)(s x:Operand)(t:TypeId)
  (ho:o.op=.call { callee:=.builtin .append,args:=#[s,x],argTypes:=#[t,t] })
  (e:TypeId) (z:Value) (sz bytes:Nat) (ht:P.underlying t=some (.slice e)) (hinfo:(P.info? e).map (λi=>(i.zero,i.size,i.bytes))=some (some z,sz,bytes))
  (hzs:z.cells.size=sz) (hsz:0<sz) (hby:bytes<=64)
  {lo hi n:Nat} {v:Value} {xs:List Value} (hs:a.eval s=v) (hown:Own sz lo hi e w0 v n xs)
  (m:Nat) (ys:List Value) (hx:a.eval x=.slice (q_ w0 0) m m) (hlen:ys.length=m*sz) (h1:∀ u∈ys,u.oneCell'=true) (hw:w=w0.alloc (.cells ys.toArray e))
  (hn:n+m<=1073741824) (hlo:lo<=w0)
  (h:∀ v' w',Own sz lo w'.heap.size e w' v' (n+m) (xs++ys)->w.grownBy w' v.ownBlock->(v'.ownBlock=v.ownBlock\/v'.ownBlock=some w.heap.size)->(v'=.slice none 0 0↔v=.slice none 0 0/\m=0)->wpList P ops Q rest (a.put o.dst v') w'):wpList P ops Q (o :: rest) a w:=by
 subst hw;obtain⟨i,hi0,hz,hsize,hb⟩:=b8_ hinfo;have hl:=(ς sz e w0 ys m (by omega) hlen).sl;obtain⟨ao,c,e',hmc,hcm,hlen',hnone,hc⟩:=hl;injection e' with e1 e2 e3;subst e1 e3;have hmx:(n+m)*bytes<=140737488355328:=J_ (bk_ hn hby) (by decide);refine wpList_append_own_at _ hgd s x t ho lo e i z sz bytes ht hi0 hz hsize hb hzs hsz v n xs hs (hown.alloc _).1 _ m m ys hx hlen' ?_ h1 (by unfold maxLen;omega) hmx (by simp;omega) ?_
 ·intro j u hu
  have hj:=(a3_.1 hu).1;obtain⟨b,off,e1,_,_,_,e2⟩:=hc j hj;cases e1
  rw[a5_,e2,hu]
 ·intro v' w' h2 h3 h4 h5
  exact h v' w' (zfs h2) h3 h5 h4
end
theorem Own.front {e:Nat} {a:Option Addr}(h:Own 1 lo hi e w (.slice a n cap) n (ys++ks))(hm:ys.length=m)(ha:a≠none):Own 1 lo hi e w (.slice a m cap) m ys:=by
 obtain⟨⟨hlen,h1⟩,h2⟩:=h;refine⟨⟨by omega,?_⟩,λg hg=>h2 g (by cases a<;>simp[Value.ownBlock] at hg ⊢<;>exact hg)⟩;rcases h1 with⟨h0,_⟩|⟨g,cap',cur,hv,hg,hh,hn,hcap,hsz,htake⟩
 ·injection h0 with h0;exact absurd h0 ha
 ·cases hv
  have hln:ys.length+ks.length=n:=by simpa using hlen
  refine .inr ⟨g,cap,cur,rfl,hg,hh,by omega,hcap,hsz,?_⟩;have h3:(cur.toList.take (n*1)).take m=ys:=by rw[htake,<-hm,bl_]
  rw[eg_,eb_ (by omega)]at h3
  rwa [Nat.mul_one]
def zja:=@Own.front
theorem Own.rest {e:Nat}(h:Own 1 lo hi e w (.slice (q_ g 0) n cap) n (ys++ks))(hm:ys.length=m)(c:Nat)(hc:ks.length=c):Sl 1 lo hi w (.slice (if cap=m then some ⟨g,0,none⟩ else some ⟨g,m,none⟩) c (cap-m)) c ks:=by
 obtain⟨a,cap',e1,h1,h2,h3,h4,h5⟩:=h.sl;injection e1 with e1 e2 e3;subst e1 e3;have hln:ys.length+ks.length=n:=by simpa using h3
 refine⟨_,_,rfl,by omega,by unfold maxLen at h2 ⊢;omega,by omega,(λh=>by split at h<;>cases h),λi hi=>?_⟩;rw[m_ (by omega)];obtain⟨b,off,f1,f2,f3,f4,f5⟩:=h5 (m+i) (by rw[n_];omega);injection f1 with f1;injection f1 with f1 f1';subst f1 f1';refine⟨g,m,rfl,f2,f3,f4,?_⟩;rw[U_]at f5;rw[f5,a2_ (by omega)]
 congr 1
 omega
theorem RT.isPtr {row:Option Nat} {p:Value}(h:RT lo row w t p):∃ a,p=.pointer a:=by
 obtain⟨ps,⟨b,kv,h,_⟩,_⟩:=h.node;exact⟨_,h⟩
theorem Stk.ptrs {row:Option Nat}:∀ {ps:List Value} {ts:List KT},Stk lo row w ps ts->∀ u∈ps,u.oneCell'=true
 | [],_,_,u,hu=>by cases hu
 | _ :: _,[],h,_,_=>h.elim
 | p :: ps,t :: ts,h,u,hu=>by
  rcases N_.1 hu with rfl|hu
  ·obtain⟨a,rfl⟩:=h.1.isPtr
   rfl
  ·exact Stk.ptrs h.2 u hu
theorem zgx.of_own {e:Nat} {v:Value} {ps:List Value} {row:Option Nat} {lo':Nat}(h:Own 1 lo hi e w v n ps)(hl:lo'<=lo)(hr:∀ g,row=some g->g<lo):zgx lo' row w v ps:=by
 obtain⟨a,cap,h1,h2,h3,h4,_,h6⟩:=h.sl;have hn:n=ps.length:=by omega
 subst hn;refine⟨a,cap,h1,h2,h3,λi hi=>?_⟩;obtain⟨b,off,e1,e2,e3,e4,e5⟩:=h6 i hi;refine⟨b,off,e1,by omega,λhb=>?_,e4,by rw[e5,l_ hi]⟩;have:=hr b hb.symm;omega
theorem zyu(lo hi:Nat)(v:Value)(xs:List Int)(at_ c:Nat)(w:World)(hx:SlI lo hi w v xs)(hm:xs.length<=1048576)(ha:at_<xs.length)(hs:zcn (xs.take (at_+1)).reverse 1=some c):
  Calls prog 164 #[v,.int .i64 at_] w (zc7 λx w'=>x=((at_+1-c:Nat):Int)/\1<=c/\c<=at_+1/\w=w'):=by
 obtain⟨a,cap,rfl,hcap,hcm,hc⟩:=hx.open;clear hx hcm hcap;have HS:=H_ hs;clear hs
 go_enter func164,ntmps164
 go_wp2
 go_loop [5,6] (λn i=>∃ (q:Nat) (need:Int) (r:Nat),q<=at_+1/\i=.int .i64 ((q:Int)-1)/\n=.int .i64 need/\0<need/\need<=1+(at_+1-q)/\Q_ (zcn (xs.take q).reverse need=some r/\r+(at_+1)=c+q)) (λ_ i=>(intOf i+1).toNat)
 case atStart=>exact⟨at_+1,1,c,le_ _,by go_num,rfl,by omega,by omega,H_ ⟨HS.o,by omega⟩⟩
 case round=>
  obtain⟨q,need,r,hq,rfl,rfl,hn0,hn1,HI⟩:=hrel
  have hq0:0<q:=by
   rcases dv_ q with h|h
   ·subst h
    have:=HI.o.1;simp only[ds_,cu_,zcn]at this;rw[m_ (by omega)]at this;cases this
   ·exact h
  obtain⟨q,rfl⟩:∃ p,q=p+1:=⟨q-1,by omega⟩;have hqx:q<xs.length:=by omega
  have hspan:=HI.o.1;rw[zn4 xs q hqx,zib _ _ _ hn0,W_]at hspan;obtain⟨r',hr1,hr2⟩:=hspan;have HI2:=H_ (a_ hr1 (show r'+(at_+1)=c+q by have:=HI.o.2;omega));obtain⟨b,off,rfl,_,_,_,hcell⟩:=hc q hqx;obtain⟨t0,t1⟩:=zev xs[q];have hsub:(((q+1:Nat):Int))-1=(q:Int):=by omega
  clear hr1 hr2 hc;by_cases hz:need+(Ο xs[q]-1)=0
  ·have hz1:(need+(Ο xs[q]-1)==0)=true:=by simp[hz]
   have hr0:r'=0:=by
    have h:=HI2.o.1;rw[show need-1+Ο xs[q]=0 by omega,zkc]at h;injection h with h;exact h.symm
   have hfin:=HI2.o.2;clear hz;go_wp2_with (go_at_call 121;refine(zhn _ _).mono ?_;rintro e w' ⟨rfl,rfl⟩)
   go_ret;exact zc7.mk _ rfl ⟨by omega,by omega,by omega,rfl⟩
  ·have hz1:(need+(Ο xs[q]-1)==0)=false:=by simpa using hz
   have hpos:0<need-1+Ο xs[q]:=by omega
   go_wp2_with (go_at_call 121;refine(zhn _ _).mono ?_;rintro e w' ⟨rfl,rfl⟩)
   go_round
   case rel=>exact⟨q,need-1+Ο xs[q],r',by omega,by first | rfl | go_num,by first | rfl | go_num,by omega,by omega,HI2⟩
   case measure=>simp[intOf]
def znf(lo:Nat)(w0 wr:World)(e:List Int)(k:Nat)(v:Value)(n:Nat):Prop:=
 ∃ xs st,Own 1 lo wr 139 wr v n xs/\Below lo w0 wr/\zar (e.take k) []=some st/\Stk lo v.ownBlock wr xs.reverse st/\n<=k
theorem zlq {e:List Int}(h:zar e []=some [t])(k:Nat)(hk:k<e.length){st:List KT}(hs:zar (e.take k) []=some st):∃ st',zbm e[k] st=some st'/\zar (e.take (k+1)) []=some st':=by
 have h1:e=e.take k++(e[k] :: e.drop (k+1)):=by rw[<-List.drop_eq_getElem_cons hk,a1_]
 rw[h1,zg5,hs]at h;simp only[ab_,zar,M_]at h;obtain⟨st',h2,_⟩:=h;refine⟨st',h2,?_⟩;rw[bz_,l_ hk,zg5,hs];simp[zar,h2]
theorem zkg {w0 wr w1 w3:World} {e:List Int} {c:Nat} {row:Option Nat} {st st':List KT} {s:Int} {a1:Option Addr} {c1:Nat} {v3:Value} {o:Obj}
  (hbel:Below lo w0 wr) (hlo:lo<=wr) (hrow:∀ g,row=some g->lo<=g/\g<wr.heap.size) (hstk:Stk lo row wr (ys++ks).reverse st) (hpush:zbm s st=some st') (hck:(ks.length:Int)=Ο s)
  (hrun:zar (e.take (k+1)) []=some st') (hmk:m<=k) (ho1:Own 1 wr w1 139 w1 (.slice a1 c c1) c ks) (hout:β wr wr wr w1)
  (ho3:Own 1 lo w3 139 w3 v3 (m+1) (ys++[.pointer (q_ w1 0)]))
  (hgr:((w1.alloc (.cells #[.int .i64 s,.slice a1 c c1] 188)).alloc o).grownBy w3 row) (hloc:v3.ownBlock=row\/v3.ownBlock=some ((w1.alloc (.cells #[.int .i64 s,.slice a1 c c1] 188)).alloc o).heap.size) :
  znf lo w0 w3 e (k+1) v3 (m+1):=by
 have hs1:=hout.size;have hgs:=hgr.size;have hz2:(w1.alloc (.cells #[.int .i64 s,.slice a1 c c1] 188)).heap.size=w1.heap.size+1:=by simp
 have hz3:((w1.alloc (.cells #[.int .i64 s,.slice a1 c c1] 188)).alloc o).heap.size=w1.heap.size+1+1:=by simp
 have⟨w2,hw2⟩:=ex_ ((w1.alloc (.cells #[.int .i64 s,.slice a1 c c1] 188)).alloc o);have hb2:Below w1 w1 w2:=by rw[hw2];exact((B_ _ _).alloc (le_ _) _).alloc (by simp) _
 have hK:Blk w1 (.cells #[.int .i64 s,.slice a1 c c1] 188) w2:=by
  rw[hw2];exact(κ w1 _).below ((B_ (w1.alloc _).heap.size _).alloc (le_ _) _) (by simp)
 rw[<-hw2]at hgr hloc hgs hz3;have hk12:zei lo row wr lo row w2:=⟨by omega,λi hi h1 h2=>⟨(hb2.block i (by omega)).trans (hout.block i hi (by omega)),h1,h2⟩⟩
 have hnode:zez lo row w2 (.pointer (q_ w1 0)) s ks:=
  ⟨w1,_,rfl,by omega,λh=>by have:=hrow _ h.symm;omega,hK,zgx.of_own (ho1.below hb2 (le_ _)) hlo λg hg=>(hrow g hg).2⟩
 have hstk2:=Stk.push hpush (hstk.mono hk12) hck hnode
 have hk23:zei lo row w2 lo v3.ownBlock w3:=⟨hgs,λi hi h1 h2=>⟨hgr.block i hi h2,h1,λh=>by
  rcases hloc with h'|h'
  ·exact h2 (h.trans h')
  ·have:=h.trans h'
   injection this with this;omega⟩⟩
 refine⟨_,_,ho3,?_,hrun,hstk2.mono hk23,by omega⟩;have h1:Below lo w0 w1:=ε hbel hout hlo hlo;have h2:Below lo w0 w2:=h1.trans (hb2.mono (by omega));refine⟨hgr.os.trans h2.os,hgr.tape.trans h2.tape,hgr.output.trans h2.output,J_ h2.size hgs,λi hi=>?_⟩;have hlt2:i<w2.heap.size:=by omega
 rw[hgr.block i hlt2 (λh=>by have:=hrow i h.symm;omega)];exact h2.block i hi
theorem zm4(v:Value)(e:List Int)(t:KT)(w:World)(hx:RdI w v e)(hm:e.length<=1000)(ht:zar e []=some [t]):
  Calls prog 132 #[v] w (ι λp w'=>Below w w w'/\RT w none w' t p):=by
 obtain⟨a,cap,rfl,hcap,hcm,_⟩:=hx.open;have HX:=H_ hx;have HT:=H_ ht;clear hx ht
 go_enter func132,ntmps132
 go_wp2;go_loopw [3,10] (λv i wr=>∃ (k n:Nat),k<=e.length/\i=.int .i64 k/\Q_ (znf w w wr e k v n)) (λ_ i _=>e.length-(intOf i).toNat)
 case atStart=>exact⟨0,0,by omega,rfl,H_ ⟨[],[],Ω _ _ _ _ _,B_ _ _,by simp[zar],trivial,le_ _⟩⟩
 case round=>
  obtain⟨k,n,hk,rfl,HR⟩:=hrel;by_cases hlt:k<e.length
  ·obtain⟨xs,st,hown,hbel,hrun,hstk,hnk⟩:=HR.o
   obtain⟨st',hpush,hrun'⟩:=zlq HT.o k hlt hrun;obtain⟨hle,hlen'⟩:=zl6 hpush;have⟨s,hs⟩:=ex_ (e[k]);rw[<-hs]at hpush hle hlen';obtain⟨c,hc⟩:∃ c:Nat,Ο s=c:=⟨(Ο s).toNat,by have:=zev s;omega⟩;obtain⟨b,off,rfl,_,_,hbs,hcell⟩:=zc8 (HX.o.below hbel) k hlt;have HK:=H_ hbel;have HP:=H_ hpush;have HN:=H_ hrun';have HS:=H_ hstk;have hck:wr.cell? (p_ b (off+k))=some (.int .i64 s):=by rw[hs];exact hcell
   have HTK:Q_ (∀ wx,Calls prog 121 #[.int .i64 s] wx λe w'=>e=.returned (.int .i64 (c:Int))/\wx=w'):=H_ λwx=>by rw[<-hc];exact zhn s wx
   have hxl:xs.length=n:=by have:=hown.1.1;omega
   have hst:st.length=n:=by have:=hstk.length;simp at this;omega
   obtain⟨ys,ks,rfl,hks,hys⟩:∃ ys ks,xs=ys++ks/\ks.length=c/\ys.length+c=n:=⟨xs.take (n-c),xs.drop (n-c),(a1_ _ _).symm,by simp;omega,by simp;omega⟩;obtain⟨m,hm'⟩:∃ m,m=ys.length:=⟨_,rfl⟩;obtain rfl:n=m+c:=by omega
   have hptr:=hstk.ptrs;have HCK:=H_ (show (ks.length:Int)=Ο s by omega);have hle':Below w w wr:=hbel;have hsz:=hbel.size;clear hs hcell hrun hpush hrun' hle hc;have hown':=hown;obtain⟨⟨_,hv|⟨g,cap2,cur,rfl,hg1,hg2,hg3,hg4,_,_⟩⟩,hlo⟩:=hown'
   ·(obtain⟨rfl,hmc⟩:=hv);(obtain⟨rfl,rfl⟩:m=0/\c=0:=by omega);(obtain rfl:ys=[]:=A_ hm'.symm;obtain rfl:ks=[]:=A_ hks;have HSL:=H_ (Ω 1 wr wr 139 wr).sl;clear hm' hown hstk hle' HR hptr hks hys hxl hst;go_wp2_with (first | (go_at_call 121;refine(HTK.o _).mono ?_;rintro e w' ⟨rfl,rfl⟩) | (at_builtin;go_loud (refine Μ rfl _ _ 186 rfl 139 (.pointer none) 1 8 underlying186 zf2 rfl (by decide) (by decide) rfl (Ω 1 wr wr 139 wr) rfl HSL.o (by simp) ?c1 ?c2 ?_))));case c1=>omega
    case c2=>omega
    intro v1 w1 ho1 _ hout1 _;obtain⟨a1,c1,rfl,_⟩:=θ ho1;have HO1:=H_ ho1;have HOUT:=H_ hout1;have hs1:=hout1.size;have⟨w2,hw2⟩:=xa_ w1 #[.int .i64 s,.slice a1 0 c1] 188;have hsz2:w2=w1.heap.size+1:=by rw[hw2];simp
    (have HW2:=H_ hw2;clear ho1 hout1 hw2;go_wp2_with (first | rw[<-HW2.o] | (at_builtin;go_loud (refine zbn w2 rfl _ _ 186 rfl 139 (.pointer none) 1 8 underlying186 zf2 rfl (by decide) (by decide) rfl (Ω 1 w w 139 w2) 1 [.pointer (q_ w1 0)] (by rw[hsz2];rfl) rfl (by simp[Value.oneCell']) rfl ?c1 ?c2 ?_))));case c1=>omega
    case c2=>omega
    intro v3 w3 ho3 hgr3 hloc _;have HB3:=H_ (zkg (k:=k) (e:=e) (row:=none) (m:=0) HK.o hsz (λx hx=>by cases hx) HS.o HP.o HCK.o HN.o (by omega) HO1.o HOUT.o ho3 (by rw[<-HW2.o];exact hgr3) (by rw[<-HW2.o];simpa [hsz2,Value.ownBlock] using hloc));obtain⟨a3,c3,rfl,_⟩:=θ ho3;clear ho3 hgr3 hloc;go_wp2;go_roundw
    (case rel=>exact⟨k+1,1,by omega,by go_num,HB3⟩);case measure=>simp[intOf];omega
   ·(have hglt:=hlo g rfl);(have HO:=H_ hown;have HREST:=H_ (Own.rest hown hm'.symm c hks);have HFR:=H_ (zja hown hm'.symm (by simp));have HM':=H_ hm';clear hm' hown hlo hg2 hstk hle' HR;have⟨q1,q2,q3,q4,q5,q6⟩:(0:Int)<=m/\(m:Int)<=(m+c:Nat)/\(m:Int)<=cap2/\(m:Int)<=(m:Int)+c/\((m:Int)+c).toNat=m+c/\((m:Int)+c-m).toNat=c:=by omega);(have⟨q7,q8,q9,q10⟩:(m:Int)+c-c=m/\((m+c:Nat):Int)-c=m/\(m:Int)+c<=cap2/\m<=cap2:=by omega);unfold maxLen at hg4;have q11:m+c-m=c:=by omega
    (have HLT:=H_ (a_ hg1 hglt);have HPT:=H_ (λ(u:Value) (hu:u∈ks)=>hptr u (by simp[hu]));clear hptr hks hys hxl hst;have hcases:m=cap2\/¬cap2=m:=by omega);rcases hcases with rfl|hcm2
    all_goals (
     (have HR2:=HREST.o)
     first | rw[x_ rfl,be_] at HR2 | rw[m_ hcm2] at HR2
     (have HREST2:=H_ HR2;clear HR2;go_wp2_with (first | (go_at_call 121;refine(HTK.o _).mono ?_;rintro e w' ⟨rfl,rfl⟩) | (at_builtin;go_loud (refine Μ rfl _ _ 186 rfl 139 (.pointer none) 1 8 underlying186 zf2 rfl (by decide) (by decide) rfl (Ω 1 wr wr 139 wr) rfl HREST2.o HPT.o ?c1 ?c2 ?_))));case c1=>omega
     case c2=>omega
     all_goals (
      intro v1 w1 ho1 _ hout1 _;obtain⟨a1,c1,rfl,_⟩:=θ ho1;have HO1:=H_ ho1;have HOUT:=H_ hout1;have hs1:=hout1.size;have⟨w2,hw2⟩:=xa_ w1 #[.int .i64 s,.slice a1 c c1] 188;have HFR2:=H_ ((HFR.o.outside hout1 (.inl (le_ _))).alloc (.cells #[.int .i64 s,.slice a1 c c1] 188));rw[<-hw2]at HFR2;have hsz2:w2=w1.heap.size+1:=by rw[hw2];simp
      (have HW2:=H_ hw2;clear ho1 hout1 hw2;go_wp2_with (first | rw[<-HW2.o] | (at_builtin;go_loud (refine zbn w2 rfl _ _ 186 rfl 139 (.pointer none) 1 8 underlying186 zf2 rfl (by decide) (by decide) rfl HFR2.o 1 [.pointer (q_ w1 0)] (by rw[hsz2];rfl) rfl (by simp[Value.oneCell']) rfl ?c1 ?c2 ?_))));case c1=>omega
      case c2=>omega
      intro v3 w3 ho3 hgr3 hloc _;have HB3:=H_ (zkg (k:=k) (e:=e) (row:=some g) HK.o hsz (λx hx=>by injection hx with hx;subst hx;exact HLT.o) HS.o HP.o HCK.o HN.o (by omega) HO1.o HOUT.o ho3 (by rw[<-HW2.o];exact hgr3) (by rw[<-HW2.o];simpa [hsz2,Value.ownBlock] using hloc));obtain⟨a3,c3,rfl,_⟩:=θ ho3;clear ho3 hgr3 hloc;go_wp2;go_roundw
      (case rel=>exact⟨k+1,m+1,by omega,by go_num,HB3⟩);case measure=>simp[intOf];omega))
  ·obtain rfl:k=e.length:=by omega
   obtain⟨xs,st,hown,hbel,hrun,hstk,hnk⟩:=HR.o;rw[Y_,HT.o]at hrun;injection hrun with hrun;subst hrun;have hxl:xs.length=1:=by have:=hstk.length;simpa using this
   obtain⟨p,rfl⟩:∃ p,xs=[p]:=by
    match xs,hxl with
    | [p],_=>exact⟨p,rfl⟩
   obtain rfl:n=1:=by have:=hown.1.1;simpa using this.symm
   have hnode:RT w none wr t p:=zd5 ⟨le_ _,λi _ h1 h2=>⟨rfl,h1,by simp⟩⟩ hstk.1;obtain⟨a3,c3,rfl,h1,h2,_,h3⟩:=θ hown;obtain⟨g,rfl,_,_⟩:=h3 (by omega)
   have hck:wr.cell? (p_ g 0)=some p:=by
    (obtain⟨_,_,e1,_,_,_,_,h6⟩:=hown.sl;obtain⟨b,off,f1,_,_,_,f2⟩:=h6 0 (by simp);injection e1 with e1;subst e1;injection f1 with f1;injection f1 with f1 f1';subst f1 f1');simpa using f2
   obtain⟨pa,hpa⟩:=hnode.isPtr;have HQ:=H_ (a_ hbel hnode);clear hown hstk hnode HR hbel;subst hpa;go_wp2;go_ret;exact ι.mk _ rfl HQ.o
theorem KT.kids_size {k:KT}(h:k∈t.kids):k.size<t.size:=by
 cases t with
 | leaf n=>cases h
 | star t=>simp only[KT.kids,k_] at h;subst h;simp[KT.size]
 | bin q a b=>
  simp only[KT.kids,N_,cl_,bx_]at h;rcases h with rfl|rfl<;>simp[KT.size]<;>omega
def zkw:=@KT.kids_size
theorem KT.kids_len(t:KT):t.kids.length<=2:=by cases t<;>simp[KT.kids]
def za7:List KT->Nat->List Int
 | _,0=>[]
 | [],_+1=>[]
 | t :: r,k+1=>t.post++za7 r k
theorem zlr:∀ (ks:List KT) (k:Nat) (h:k<ks.length),za7 ks (k+1)=za7 ks k++ks[k].post
 | [],k,h=>by cases h
 | t :: r,0,h=>by simp[za7]
 | t :: r,k+1,h=>by
  have hk:k<r.length:=by simpa using h
  have ih:=zlr r k hk;rw[za7,ih,za7,Z_];rfl
theorem zp0(ks:List KT):za7 ks 0=[]:=by cases ks<;>rfl
theorem zq5(t:KT):t.post=za7 t.kids t.kids.length++[t.root]:=by
 cases t<;>simp[KT.post,KT.kids,KT.root,za7]
theorem zsh(t:KT)(k:Nat):(za7 t.kids k).length<=t.size:=by
 cases t with
 | leaf n=>cases k<;>simp[KT.kids,za7]
 | star t=>match k with
  | 0=>simp[KT.kids,za7]
  | 1=>simp[KT.kids,za7,KT.size,t.post_length]
  | k+2=>simp[KT.kids,za7,KT.size,t.post_length]
 | bin q a b=>match k with
  | 0=>simp[KT.kids,za7]
  | 1=>simp[KT.kids,za7,KT.size,a.post_length];omega
  | 2=>simp[KT.kids,za7,KT.size,a.post_length,b.post_length]
  | k+3=>simp[KT.kids,za7,KT.size,a.post_length,b.post_length]
def zly(t:KT):Prop:=∀ (lo:Nat) (p:Value) (w:World),RT lo none w t p->t.size<=100 ->
 Calls prog 195 #[p] w (ι λv w'=>Below w w w'/\γ w w' 3 w' v t.post)
theorem znq(t:KT)(ih:∀ k∈t.kids,zly k):zly t:=by
 intro lo p w hp hsz;obtain⟨ps,⟨b,kv,rfl,_,_,hblk,a,cap,rfl,hpc,hcm,hkid⟩,hstk⟩:=hp.node;have hpl:=hstk.length;have HS:=H_ hstk;have HIH:=H_ ih;have HKD:=H_ hkid;have hkl:=t.kids_len;have HKP:=H_ (zsh t);obtain⟨c0,c1⟩:=hblk.c2;have hbs:=hblk.lt;have HP:Q_ (t.post=za7 t.kids t.kids.length++[t.root]):=H_ (zq5 t);have HSZ:=H_ (λk (h:k∈t.kids)=>J_ (cr_ (zkw h)) hsz);have⟨ks,hks⟩:=ex_ t.kids;rw[<-hks]at HS HIH HKP HP hpl hkl HSZ;clear hp hstk ih hkid hks;unfold maxLen at hcm;rw[hpl]at hpc c1
 go_enter func195,ntmps195
 go_wp2;go_loopw [3,11] (λv i wr=>∃ (k:Nat),k<=ks.length/\i=.int .i64 k/\Q_ (γ w wr 3 wr v (za7 ks k)/\Below w w wr)) (λ_ i _=>ks.length-(intOf i).toNat)
 case atStart=>exact⟨0,by omega,rfl,H_ ⟨by rw[zp0];exact Ω _ _ _ _ _,B_ _ _⟩⟩
 case round=>
  obtain⟨k,hk,rfl,HR⟩:=hrel;obtain⟨va,vc,rfl,hvc,hvm,_⟩:=θ HR.o.1;have hb:=HR.o.2;by_cases hlt:k<ks.length
  ·have hkp:k<ps.length:=by omega
   obtain⟨g,off,rfl,hg1,_,hg2,hg3⟩:=HKD.o k hkp;have⟨q,hq⟩:=ex_ (ps[k]);rw[<-hq]at hg3;have hck:wr.cell? (p_ g (off+k))=some q:=by rw[hb.cell (p:=p_ g (off+k)) hg2];exact hg3
   have hRT:=(HS.o.get k hkp hlt).below hb;rw[<-hq]at hRT;obtain⟨qa,rfl⟩:=hRT.isPtr;have HC:=H_ (HIH.o ks[k] (u_ hlt) lo _ wr hRT (HSZ.o _ (u_ hlt)));have HN:=H_ (zlr ks k hlt);have HL:=H_ (HKP.o (k+1));have HB:=H_ hb;have HO:=H_ HR.o.1;clear hg3 hRT hb HR hq;go_wp2_with fail
   refine HC.o.mono ?_;rintro e w1 ⟨v1,rfl,hb1,ho1⟩;have H1:=H_ ho1;replace HO:=H_ (HO.o.below hb1 (le_ _));replace HB:=HB.ts hb1;have hs1:=hb1.size;obtain⟨xa,xc,rfl,_⟩:=θ ho1;have hlen:=HL.o;rw[HN.o,n_]at hlen;clear hb1 ho1 HC;go_wp2_with (at_builtin;go_loud (refine Μ rfl _ _ 22 rfl 3 (0:Int) 1 8 underlying22 ω rfl (by decide) (by decide) rfl HO.o rfl H1.o.sl (Ι _) ?c1 ?c2 ?_))
   case c1=>omega
   case c2=>have:=HB.o.size;omega
   intro v2 w2 ho2 _ hout2 _
   have H2:Q_ (γ w w2 3 w2 v2 (za7 ks (k+1))):=by
    rw[HN.o];refine H_ ?_;unfold γ;rw[n_,zaa];exact ho2
   obtain⟨ya,yc,rfl,_⟩:=θ ho2;replace HB:=H_ (ε HB.o hout2 (le_ _) HB.o.size);clear ho2 hout2;go_wp2;go_roundw
   case rel=>exact⟨k+1,by omega,by go_num,H_ ⟨H2.o,HB.o⟩⟩
   case measure=>simp[intOf];omega
  ·obtain rfl:k=ks.length:=by omega
   have HO:=HR.o.1;have hcl:=HKP.o ks.length;generalize za7 ks ks.length=xs at HO hcl HP ⊢;have HOO:=H_ HO;have HB:=H_ hb;have hc0:wr.cell? (p_ b 0)=some (.int .i64 t.root):=by rw[hb.cell (p:=p_ b 0) hbs];exact c0
   clear HO hb HR c0 c1;go_wp2_with (at_builtin;go_loud (refine zap wr rfl _ _ 22 rfl 3 (0:Int) 1 8 underlying22 ω rfl (by decide) (by decide) rfl HOO.o 1 (δ [t.root]) rfl rfl (Ι _) rfl ?c1 ?c2 ?_))
   case c1=>omega
   case c2=>have:=HB.o.size;omega
   intro v2 w2 ho2 hout2 _
   have H2:Q_ (γ w w2 3 w2 v2 t.post):=by
    rw[HP.o];refine H_ ?_;unfold γ;rw[n_,zaa];exact ho2
   obtain⟨ya,yc,rfl,_⟩:=θ ho2;replace HB:=H_ (ε HB.o hout2 (le_ _) HB.o.size);clear ho2 hout2;go_wp2;go_ret;exact ι.mk _ rfl ⟨HB.o,H2.o⟩
theorem zkk:∀ t:KT,zly t
 | .leaf n=>znq _ (λk h=>by cases h)
 | .star t=>by
  have ha:=zkk t
  exact znq _ (λk h=>by
   simp only[KT.kids,k_]at h;subst h;exact ha)
 | .bin q a b=>by
  have ha:=zkk a;have hb:=zkk b
  exact znq _ (λk h=>by
   simp only[KT.kids,N_,cl_,bx_]at h;rcases h with rfl|rfl
   ·exact ha
   ·exact hb)
section
open Go.Maps
open Go.ChangeMaps (setBlock)
theorem zgz:Keyed prog 3:=int_keyed underlying3
theorem zuo(w:World):(zeroValue 22).run prog w=.ok (.slice none 0 0) w:=by kernel_rfl
def zca(bm:Nat)(w:World)(V:List (List Int)):Prop:=
 ∃ es clock,w.heap[bm]?=some (.map es clock)/\(∀ e∈es.toList,∃ k:Nat,k<3/\e.key=.int .i64 (-1-(k:Int))/\V.getD k []≠[]/\SlI (bm+1) w w e.val (V.getD k [])) /\
  ∀ k,k<3->V.getD k []≠[]->∃ e∈es.toList,e.key=.int .i64 (-1-(k:Int))
theorem zca.lt {V:List (List Int)}(h:zca bm w V):bm<w:=by
 obtain⟨es,cl,h1,_⟩:=h;exact(L_.1 h1).1
theorem zca.below {V:List (List Int)}(h:zca bm w V)(hb:Below w w w'):zca bm w' V:=by
 have hlt:=h.lt;obtain⟨es,cl,h1,h2,h3⟩:=h;refine⟨es,cl,(hb.block bm hlt).trans h1,λe he=>?_,h3⟩;obtain⟨k,g1,g2,g3,g4⟩:=h2 e he;exact⟨k,g1,g2,g3,(g4.below hb (le_ _)).wide (le_ _) hb.size⟩
theorem zca.made(w:World):zca w (w.alloc (.map #[] 0)) [[],[],[]]:=
 ⟨#[],0,ba_ w _,λe he=>by simp at he,λk hk h=>absurd (by match k,hk with | 0,_=>rfl | 1,_=>rfl | 2,_=>rfl) h⟩
theorem zjp(k:Nat)(hk:k<3):keyOf prog 3 (.int .i64 (-1-(k:Int)))=some (.int .i64 (-1-(k:Int))):=
 keyOf_int_mk underlying3 (dg_ ⟨by omega,by omega⟩)
theorem zca.find {V:List (List Int)} {es:Array MapEntry}(hk:k<3)
  (h2:∀ e∈es.toList,∃ k:Nat,k<3/\e.key=.int .i64 (-1-(k:Int))/\V.getD k []≠[]/\SlI (bm+1) w w e.val (V.getD k [])) (h3:∀ k,k<3->V.getD k []≠[]->∃ e∈es.toList,e.key=.int .i64 (-1-(k:Int))) :
  ((Instr.findKey 3 (.int .i64 (-1-(k:Int))) es.toList).run prog w=.ok none w/\V.getD k []=[]) \/
  ∃ j v,(Instr.findKey 3 (.int .i64 (-1-(k:Int))) es.toList).run prog w=.ok (some (j,v)) w/\V.getD k []≠[]/\SlI (bm+1) w w v (V.getD k []):=by
 have hkeys:∀ e∈es.toList,∃ l,keyOf prog 3 e.key=some l:=λe he=>by
  obtain⟨k',g1,g2,_⟩:=h2 e he;exact⟨_,by rw[g2];exact zjp k' g1⟩
 rcases zgz.find w (zjp k hk) es.toList hkeys with⟨f1,f2⟩|⟨j,e,f1,f2,f3⟩
 ·refine .inl ⟨f1,?_⟩
  by_cases hv:V.getD k []=[]
  ·exact hv
  ·obtain⟨e,he,hke⟩:=h3 k hk hv
   exact absurd hke (f2 e he)
 ·obtain⟨k',g1,g2,g3,g4⟩:=h2 e (cg_ f2)
  have hkk:k'=k:=by
   have f4:Value.int .i64 (-1-(k':Int))=Value.int .i64 (-1-(k:Int)):=g2.symm.trans f3;have f5:=(Value.int.inj f4).2;omega
  subst hkk;exact .inr ⟨j,e.val,f1,g3,g4⟩
theorem zca.look {V:List (List Int)}(h:zca bm w V)(k:Nat)(hk:k<3):
  ((Instr.lookup 175 (.map (some bm)) (.int .i64 (-1-(k:Int))) true).run prog w=.ok (.tuple #[(),.bool false]) w/\V.getD k []=[]) \/
  ∃ v,(Instr.lookup 175 (.map (some bm)) (.int .i64 (-1-(k:Int))) true).run prog w=.ok (.tuple #[v,.bool true]) w/\V.getD k []≠[]/\SlI (bm+1) w w v (V.getD k []):=by
 obtain⟨es,cl,h1,h2,h3⟩:=h;have hc:=zgz.check w es.isEmpty (zjp k hk);rcases zca.find hk h2 h3 with⟨f1,f2⟩|⟨j,v,f1,f2,f3⟩
 ·exact .inl ⟨by simp[Instr.lookup,c7_ underlying175,b9_ h1,hc,f1,zuo w,Result.andThen],f2⟩
 ·exact .inr ⟨v,by simp[Instr.lookup,c7_ underlying175,b9_ h1,hc,f1,Result.andThen],f2,f3⟩
theorem zca.store {V:List (List Int)}(h:zca bm w V)(hV:V.length=3)(k:Nat)(hk:k<3)(h0:V.getD k []=[])(v:Value)(xs:List Int)(hx:xs≠[])(hs:SlI (bm+1) w w v xs):
  ∃ w',(Instr.mapUpdate 175 (.map (some bm)) (.int .i64 (-1-(k:Int))) v).run prog w=.ok () w'/\zca bm w' (V.set k xs)/\β bm (bm+1) w w':=by
 obtain⟨es,cl,h1,h2,h3⟩:=h;have hc:=zgz.check w false (zjp k hk);rcases zca.find hk h2 h3 with⟨f1,_⟩|⟨j,v,f1,f2,_⟩
 ·have hlt:=(L_.1 h1).1
  have hO:β bm (bm+1) w (setBlock w bm (.map (es.push { key:=.int .i64 (-1-(k:Int)),val:=v,born:=cl }) (cl+1))):=by
   refine⟨rfl,rfl,rfl,by simp[setBlock],λi _ hi=>?_⟩
   show (w.heap.setIfInBounds bm _)[i]?=w.heap[i]?
   rw[b7_,m_ (by omega)]
  refine⟨setBlock w bm (.map (es.push { key:=.int .i64 (-1-(k:Int)),val:=v,born:=cl }) (cl+1)),?_,⟨es.push { key:=.int .i64 (-1-(k:Int)),val:=v,born:=cl },cl+1,?_,?_,?_⟩,hO⟩
  ·simp[Instr.mapUpdate,c7_ underlying175,b9_ h1,hc,f1,MapKept.run_setObj_map _ h1,Result.andThen,setBlock]
  ·show (w.heap.setIfInBounds bm _)[bm]?=_
   rw[b7_,x_ rfl,x_ hlt]
  ·intro e he
   rw[d1_,E_,k_]at he;have hsz:(setBlock w bm (.map (es.push { key:=.int .i64 (-1-(k:Int)),val:=v,born:=cl }) (cl+1))).heap.size=w.heap.size:=by simp[setBlock]
   rcases he with he|rfl
   ·(obtain⟨k',g1,g2,g3,g4⟩:=h2 e he);(have hne:k≠k':=by intro h;subst h;exact g3 h0);(have hget:(V.set k xs).getD k' []=V.getD k' []:=by simp[List.getD,a6_ hne]);refine⟨k',g1,g2,by rw[hget];exact g3,?_⟩;rw[hget,hsz];exact g4.outside hO (.inr (le_ _))
   ·(have hget:(V.set k xs).getD k []=xs:=by simp[List.getD,hV,hk]);refine⟨k,hk,rfl,by rw[hget];exact hx,?_⟩;rw[hget,hsz];exact hs.outside hO (.inr (le_ _))
  ·intro k' hk' hv
   by_cases hkk:k=k'
   ·subst hkk
    exact⟨_,by rw[d1_];exact List.mem_append_right _ (k_.2 rfl),rfl⟩
   ·(have hget:(V.set k xs).getD k' []=V.getD k' []:=by simp[List.getD,a6_ hkk]);rw[hget]at hv;obtain⟨e,he,hke⟩:=h3 k' hk' hv;exact⟨e,by rw[d1_];exact List.mem_append_left _ he,hke⟩
 ·exact absurd h0 f2
end
def zd7:List KT->List KT->List (List Int)->Option (List (List Int))
 | [],[],V=>some V
 | p :: ps,t :: ts,V=>(Α p t V).bind (zd7 ps ts)
 | _,_,_=>none
theorem zft(q:Bool):KT.op q=19\/KT.op q=20:=by cases q<;>simp[KT.op]
theorem z16(hp:p.ok (-3)=true)(ht:t.ok 0=true)(h0:0<=p.root)(V:List (List Int)):Α p t V=if p.root=t.root then zd7 p.kids t.kids V else none:=by
 cases p with
 | leaf n=>
  simp only[KT.root]at h0;simp only[KT.ok,j_,t_]at hp;have hn:¬n<0:=by omega
  rw[Α,m_ hn];by_cases h:t.root=n
  ·rw[x_ h,x_ (show (KT.leaf n).root=t.root from h.symm)]
   cases t with
   | leaf m=>rfl
   | star _=>simp only[KT.root] at h;omega
   | bin r _ _=>have:=zft r;simp only[KT.root] at h;omega
  ·rw[m_ h,m_ (show ¬(KT.leaf n).root=t.root from λe=>h e.symm)]
 | star p=>
  cases t with
  | leaf m=>
   have hne:¬(KT.star p).root=(KT.leaf m).root:=by simp only[KT.ok,j_,t_] at ht;simp only[KT.root];omega
   rw[m_ hne];rfl
  | star t=>rw[x_ (show (KT.star p).root=(KT.star t).root from rfl)];simp only[Α,KT.kids,zd7];cases Α p t V<;>rfl
  | bin r c d=>
   have hne:¬(KT.star p).root=(KT.bin r c d).root:=by have:=zft r;simp only[KT.root];omega
   rw[m_ hne];rfl
 | bin q a b=>
  cases t with
  | leaf m=>
   have hne:¬(KT.bin q a b).root=(KT.leaf m).root:=by have:=zft q;simp only[KT.ok,j_,t_] at ht;simp only[KT.root];omega
   rw[m_ hne];rfl
  | star t=>
   have hne:¬(KT.bin q a b).root=(KT.star t).root:=by have:=zft q;simp only[KT.root];omega
   rw[m_ hne];rfl
  | bin r c d=>
   by_cases h:q=r
   ·subst h
    rw[x_ (show (KT.bin q a b).root=(KT.bin q c d).root from rfl),zk4,x_ rfl];simp only[KT.kids,zd7];cases Α a c V with
    | none=>rfl
    | some V1=>
     simp only[ab_];cases Α b d V1<;>rfl
   ·(have hne:¬(KT.bin q a b).root=(KT.bin r c d).root:=by cases q<;>cases r<;>simp[KT.op,KT.root] at h ⊢);rw[m_ hne,zk4,m_ h]
theorem zz1 {ps ts:List KT}(k:Nat)(h1:k<ps.length)(h2:k<ts.length)(V:List (List Int)):zd7 (ps.drop k) (ts.drop k) V=(Α ps[k] ts[k] V).bind (zd7 (ps.drop (k+1)) (ts.drop (k+1))):=by
 rw[y_ h1,y_ h2,zd7]
theorem zs9 {ps ts:List KT}(k:Nat)(h1:ps.length<=k)(h2:ts.length<=k)(V:List (List Int)):zd7 (ps.drop k) (ts.drop k) V=some V:=by
 rw[az_ h1,az_ h2,zd7]
theorem z0c(hp:p.ok (-3)=true)(ht:t.ok 0=true)(h:p.root=t.root)(h0:0<=p.root):p.kids.length=t.kids.length:=by
 cases p with
 | leaf n=>
  simp only[KT.ok,j_,t_]at hp;simp only[KT.root]at h;cases t with
  | leaf m=>rfl
  | star _=>simp only at h;omega
  | bin r _ _=>have:=zft r;simp only at h;omega
 | star p=>
  simp only[KT.root]at h;cases t with
  | leaf m=>simp only[KT.ok,j_,t_] at ht;simp only at h;omega
  | star _=>rfl
  | bin r _ _=>have:=zft r;simp only at h;omega
 | bin q a b=>
  have:=zft q;simp only[KT.root]at h;cases t with
  | leaf m=>simp only[KT.ok,j_,t_] at ht;simp only at h;omega
  | star _=>simp only at h;omega
  | bin r _ _=>rfl
theorem zpa {lo:Int} {k:KT}(h:t.ok lo=true)(hk:k∈t.kids):k.ok lo=true:=by
 cases t with
 | leaf n=>cases hk
 | star t=>simp only[KT.kids,k_] at hk;subst hk;exact h
 | bin q a b=>
  simp only[KT.ok,j_]at h;simp only[KT.kids,N_,cl_,bx_]at hk;rcases hk with rfl|rfl
  ·exact h.1
  ·exact h.2
def MatI(bm:Nat)(w:World)(r:Option (List (List Int)))(b:Bool)(w':World):Prop:=
 b=r.isSome/\β bm (bm+1) w w'/\∀ V',r=some V'->zca bm w' V'
def zkx(p:KT):Prop:=∀ (t:KT) (V:List (List Int)) (w:World) (lo bm:Nat) (ps pt:Value),p.ok (-3)=true->p.size<=100->t.ok 0=true->t.size<=40->GV V->RT lo none w p ps->RT lo none w t pt->bm<lo->zca bm w V ->
 Calls prog 165 #[ps,pt,.map (some bm)] w (za4 (MatI bm w (Α p t V)))
theorem β.same(h:Below w w w'):β lo hi w w':=β.of_below h (le_ _)
theorem zed {xs ys:List Int}:eqL xs ys=decide (xs=ys):=by simp[eqL,Bool.beq_eq_decide_eq]
theorem z0b(n:Int)(hn:n<0):zkx (.leaf n):=by
 intro t V w lo bm ps pt hp _ ht hts hV hps hpt hbm hM;simp only[KT.ok,j_,t_]at hp;obtain⟨k,hk3,hnk⟩:∃ k:Nat,k<3/\n=-1-(k:Int):=⟨(-1-n).toNat,by omega,by omega⟩;subst hnk;have hvk:zbf (-1-(k:Int))=k:=by unfold zbf;omega
 obtain⟨qs,⟨b,kv,rfl,_,_,hblk,a,cap,rfl,hpc,hcm,_⟩,_⟩:=hps.node;have hbs:=hblk.lt;have HPB:=H_ hblk;have HST:=H_ (zkk t lo pt w hpt (by omega));obtain⟨pa,rfl⟩:=hpt.isPtr;have HM:=H_ hM;have HV:=H_ hV
 have HR:Q_ (Α (.leaf (-1-(k:Int))) t V=if V.getD k []=[] then some (V.set k t.post) else if V.getD k []=t.post then some V else none):=by
  refine H_ ?_;rw[Α,x_ (by omega),hvk]
 have c0:=hblk.cell 0;simp only[KT.root]at c0;have hbw:=hM.lt;clear hp hM hV hps hpt hblk hvk
 go_enter func165,ntmps165
 go_wp2_with fail
 refine HST.o.mono ?_;rintro e w1 ⟨v1,rfl,hb1,ho1⟩;have c0':w1.cell? (p_ b 0)=some (.int .i64 (-1-(k:Int))):=by rw[hb1.cell (p:=p_ b 0) hbs];exact c0
 have hs1:=hb1.size;replace HM:=H_ (HM.o.below hb1);have HO:=H_ ho1;have HB:=H_ hb1;obtain⟨xa,xc,rfl,_⟩:=θ ho1;have hmlt:=hb1;clear c0 HST ho1 hmlt hb1;rcases HM.o.look k hk3 with⟨hl,h0⟩|⟨v0,hl,h0,hs0⟩
 ·obtain⟨w2,hup,hM2,hO2⟩:=HM.o.store HV.o.len k hk3 h0 (.slice xa t.post xc) t.post t.post_ne (HO.o.sl.wide (by omega) (le_ _))
  have HF:=H_ (a_ hM2 (β.trans (β.same (lo:=bm) (hi:=bm+1) HB.o) hO2));clear hM2 hO2;go_wp2;go_ret;refine za4.mk true rfl ⟨by rw[HR.o,x_ h0];rfl,HF.o.2,λV' h=>?_⟩;rw[HR.o,x_ h0]at h;injection h with h;subst h;exact HF.o.1
 ·generalize V.getD k []=Y at HR hl h0 hs0
  obtain⟨ya,yc,rfl,_⟩:=π hs0;have HS0:=H_ hs0;have H0:=H_ h0;clear hs0 h0;go_wp2_with fail
  refine(zge _ _ _ _ _ _ Y t.post w1 HS0.o HO.o.sl).mono ?_;rintro e w2 ⟨rfl,hb2⟩;have HF:=H_ (a_ (HM.o.below hb2) (β.same (lo:=bm) (hi:=bm+1) (HB.o.trans (hb2.mono HB.o.size))));clear hb2;go_wp2;go_ret;refine za4.mk _ rfl ⟨?_,HF.o.2,λV' h=>?_⟩
  ·rw[HR.o,m_ H0.o]
   by_cases he:Y=t.post
   ·rw[x_ he,zed,b6_ he];rfl
   ·rw[m_ he,zed,ec_ he];rfl
  ·rw[HR.o,m_ H0.o]at h
   split at h
   ·injection h with h
    subst h;exact HF.o.1
   ·cases h
theorem zmg(p:KT)(h0:0<=p.root)(ih:∀ k∈p.kids,zkx k):zkx p:=by
 intro t V w lo bm ps pt hp hpz ht hts hV hps hpt hbm hM;have HMT:=H_ (z16 hp ht h0 V);have HKL:=H_ (z0c hp ht);have HPO:=H_ (λk (h:k∈p.kids)=>a_ (zpa hp h) (J_ (cr_ (zkw h)) hpz));have HTO:=H_ (λk (h:k∈t.kids)=>a_ (zpa ht h) (J_ (cr_ (zkw h)) hts));have HIH:=H_ ih;obtain⟨qs,⟨b,kv,rfl,hlb,_,hblk,a,cap,rfl,hpc,hcm,hkid⟩,hstk⟩:=hps.node;obtain⟨qs',⟨b',kv',rfl,hlb',_,hblk',a',cap',rfl,hpc',hcm',hkid'⟩,hstk'⟩:=hpt.node;have hbs:=hblk.lt;have hbs':=hblk'.lt;obtain⟨c0,c1⟩:=hblk.c2;have d0:=hblk'.cell 0;have d1:=hblk'.cell 1;have hl:=hstk.length;have hl':=hstk'.length;have HS:=H_ hstk;have HS':=H_ hstk';have HKD:=H_ hkid;have HKD':=H_ hkid';have HM:=H_ hM;have HV:=H_ hV;have hbw:=hM.lt;have hkz:=p.kids_len;unfold maxLen at hcm hcm';have⟨pr,hpr⟩:=ex_ p.root;have⟨tr,htr⟩:=ex_ t.root;rw[<-hpr]at c0 h0 HKL HMT;rw[<-htr]at d0 HKL HMT;have hn0:¬pr<0:=by omega
 clear hp hpz ht hts hV hps hpt hM ih hblk hblk' hstk hstk' hkid hkid' hpr htr;by_cases hr:pr=tr
 ·have hkk:=HKL.o hr h0
  subst hr;have hne:(pr !=pr)=false:=by simp
  have HR:Q_ (Α p t V=zd7 p.kids t.kids V):=H_ (by rw[HMT.o,x_ rfl]);have⟨ks,hks⟩:=ex_ p.kids;have⟨ts,hts⟩:=ex_ t.kids;rw[<-hks]at HPO HIH hl HS hkz hkk HR;rw[<-hts]at HTO hl' HS' hkk HR;rw[hl]at c1 hpc;rw[hl',<-hkk]at d1 hpc';clear hks hts HKL HMT h0
  go_enter func165,ntmps165
  go_wp2_with fail
  go_quiet (fail)
  go_wp2;go_loopw [52] (λi wr=>∃ (k:Nat) (V':List (List Int)),k<=ks.length/\i=.int .i64 k/\Q_ (zca bm wr V'/\GV V'/\β bm (bm+1) w wr/\zd7 ks ts V=zd7 (ks.drop k) (ts.drop k) V')) (λi _=>ks.length-(intOf i).toNat)
  case atStart=>exact⟨0,V,by omega,rfl,H_ ⟨HM.o.below (ai_ (B_ _ _) _),HV.o,β.same (ai_ (B_ _ _) _),rfl⟩⟩
  case round=>
   obtain⟨k,V',hk,rfl,HQ⟩:=hrel;have HO:=H_ HQ.o.2.2.1;have hsz:=HO.o.size;by_cases hlt:k<ks.length
   ·(have⟨hlt2,h1q,h2q⟩:k<ts.length/\k<qs.length/\k<qs'.length:=by omega);(obtain⟨g,off,rfl,g1,_,g2,g3⟩:=HKD.o k h1q;obtain⟨g',off',rfl,g1',_,g2',g3'⟩:=HKD'.o k h2q;have⟨q,hq⟩:=ex_ (qs[k]);obtain⟨q',hq'⟩:∃ q',q'=qs'[k]:=⟨_,rfl⟩;rw[<-hq]at g3;rw[<-hq']at g3';have e1:wr.cell? (p_ g (off+k))=some q:=(ag_ (w:=w) (a:=p_ g (off+k)) (HO.o.block g g2 (by omega))).trans g3;have e2:wr.cell? (p_ g' (off'+k))=some q':=(ag_ (w:=w) (a:=p_ g' (off'+k)) (HO.o.block g' g2' (by omega))).trans g3';have e3:wr.cell? (p_ b' 1)=some (.slice (q_ g' off') ks cap'):=(ag_ (w:=w) (a:=p_ b' 1) (HO.o.block b' hbs' (by omega))).trans d1;have r1:=(HS.o.get k h1q hlt).outside HO.o (by omega);have r2:=(HS'.o.get k h2q hlt2).outside HO.o (by omega);rw[<-hq]at r1;rw[<-hq']at r2;obtain⟨qa,rfl⟩:=r1.isPtr;obtain⟨qa',rfl⟩:=r2.isPtr;have m1:=HPO.o _ (u_ hlt);have m2:=HTO.o _ (u_ hlt2);have HC:=H_ (HIH.o ks[k] (u_ hlt) ts[k] V' wr lo bm _ _ m1.1 m1.2 m2.1 m2.2 HQ.o.2.1 r1 r2 hbm HQ.o.1);have HGV:Q_ (∀ V'',Α ks[k] ts[k] V'=some V''->GV V''):=H_ (λV'' hx=>zh3 ks[k] ts[k] V' V'' m2.1 m2.2 HQ.o.2.1 hx);have HST:=H_ (HQ.o.2.2.2.trans (zz1 k hlt hlt2 V'));generalize Α ks[k] ts[k] V'=res at HC HGV HST;clear g3 g3' hq hq' r1 r2 m1 m2 HQ;go_wp2_with fail);refine HC.o.mono ?_;rintro e w1 ⟨bb,rfl,rfl,ho,hx⟩;have HO1:=H_ (HO.o.trans ho);clear ho HC;cases res with
    | none=>
     simp only[a8_];go_wp2;go_ret;refine za4.mk _ rfl ⟨by rw[HR.o,HST.o];rfl,HO1.o,λV'' h=>?_⟩;rw[HR.o,HST.o]at h;cases h
    | some V1=>
     (have HX:=H_ (hx V1 rfl);clear hx;simp only[a0_];go_wp2;go_roundw);(case rel=>exact⟨k+1,V1,by omega,by go_num,H_ ⟨HX.o,HGV.o V1 rfl,HO1.o,HST.o⟩⟩);case measure=>simp[intOf];omega
   ·(obtain rfl:k=ks.length:=by omega);have HF:Q_ (Α p t V=some V'):=H_ (by rw[HR.o,HQ.o.2.2.2];exact zs9 _ (le_ _) (by omega) V');go_wp2;go_ret;refine za4.mk _ rfl ⟨by rw[HF.o];rfl,HO.o,λV'' h=>?_⟩;rw[HF.o]at h;injection h with h;subst h;exact HQ.o.1
 ·have hne:(pr !=tr)=true:=by simpa using hr
  have HR:Q_ (Α p t V=none):=H_ (by rw[HMT.o,m_ hr]);clear hr
  go_enter func165,ntmps165
  go_wp2_with fail
  go_quiet (fail)
  go_wp2;go_ret;refine za4.mk _ rfl ⟨by rw[HR.o];rfl,β.same (ai_ (B_ _ _) _),λV' h=>?_⟩;rw[HR.o]at h;cases h
theorem zkq:∀ p:KT,zkx p
 | .leaf n=>by
  by_cases h:n<0
  ·exact z0b n h
  ·exact zmg (.leaf n) (show 0<=n by omega) (λk h=>by cases h)
 | .star p=>by
  have ha:=zkq p
  exact zmg _ (by simp[KT.root]) (λk h=>by
   simp only[KT.kids,k_]at h;subst h;exact ha)
 | .bin q a b=>by
  have ha:=zkq a;have hb:=zkq b
  exact zmg _ (by have:=zft q;simp only[KT.root];omega) (λk h=>by
   simp only[KT.kids,N_,cl_,bx_]at h;rcases h with rfl|rfl
   ·exact ha
   ·exact hb)
def zji(P:Value->Value->World->Prop)(e:Ending)(w':World):Prop:=∃ v x,e=.returned (.tuple #[v,x])/\P v x w'
def DoR(w:World)(r:Option (List Int))(v x:Value)(w':World):Prop:=
 Below w w w'/\match r with
  | some out=>x=.nilIface/\γ w w' 3 w' v out
  | none=>v=.slice none 0 0/\∃ g,x=.iface 171 (.pointer (q_ g 0))/\w.heap.size<=g
theorem DoR.fail {r:Option (List Int)}(hr:r=none)(hb:Below w w w')(hg:w.heap.size<=g):DoR w r () (.iface 171 (.pointer (q_ g 0))) w':=by
 subst hr;exact⟨hb,rfl,g,rfl,hg⟩
def zi6:=@DoR.fail
abbrev ziw(m:Mv):Value:=.agg #[.int .i64 m.which,.bool m.back,.int .i64 m.at_]
theorem zyv(ve:Value)(e:List Int)(m:Mv)(w:World)(hr:isR m.which=false):
  Calls prog 122 #[ve,ziw m] w (zji (DoR w (Ψ e m))):=by
 have HR:=H_ (zul (e:=e) hr);have hr':inB m.which 0 20=false:=hr
 go_enter func122,ntmps122
 go_wp2_with (go_at_call 145;refine(zm7 _ _).mono ?_;rintro e w' ⟨rfl,rfl⟩)
 go_region
 all_goals (
  go_wp2;refine d_ (v:=.tuple #[(),.iface 171 (.pointer (q_ (w+1) 0))]) (by simp[results,results122,go_sem]) rfl ⟨_,_,rfl,zi6 HR.o (z_ (((B_ _ _).alloc (le_ _) _).alloc (by simp) _)) (by omega)⟩)
theorem zxz(ve:Value)(e:List Int)(m:Mv)(w:World)(hx:RdI w ve e)(hr:isR m.which=true)(ha:inB m.at_ 0 (e.length-1)=false):
  Calls prog 122 #[ve,ziw m] w (zji (DoR w (Ψ e m))):=by
 have HR:=H_ (zuj (e:=e) ha);have hr':inB m.which 0 20=true:=hr;obtain⟨a,cap,rfl,hcap,hcm,_⟩:=hx.open;have hc:m.at_<0\/(0<=m.at_/\(e.length:Int)<=m.at_):=by simp[inB] at ha;omega
 clear hx ha;rcases hc with h1|⟨h1,h2⟩
 all_goals (
  go_enter func122,ntmps122
  go_wp2_with (go_at_call 145;refine(zm7 _ _).mono ?_;rintro e w' ⟨rfl,rfl⟩)
  go_region
  all_goals (
   go_wp2;refine d_ (v:=.tuple #[(),.iface 171 (.pointer (q_ (w+1) 0))]) (by simp[results,results122,go_sem]) rfl ⟨_,_,rfl,zi6 HR.o (z_ (((B_ _ _).alloc (le_ _) _).alloc (by simp) _)) (by omega)⟩))
end
end Go.Proofs.YtfnnhimopokpnaaGreatDoor
