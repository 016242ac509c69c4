/- Lemmas for this seat; no condition. -/
import Derived.Test.YtfnnhimopokpnaaGreatDoorHCAS
namespace Go.Proofs.YtfnnhimopokpnaaGreatDoor
open Go.RowKit Proofs.Tryz
set_option maxRecDepth 100000
set_option maxHeartbeats 0
set_option linter.all false
variable {t x:List Int} {l xss L:List (List Int)} {k lo hi n cap g lo' m j:Nat} {w w' w3 wr:World} {ss:List Value} {v v' s va vb:Value}
theorem zld:∀ {k:Nat} {l:List (List Int)},k<=l.length->(∀ j (_:j<k) (h2:j<l.length),ltL l[j] t=true)->addL t l=l.take k++addL t (l.drop k)
 | 0,l,_,_=>by simp
 | k+1,[],h,_=>by simp at h
 | k+1,x :: r,h,hj=>by
  have h0:=hj 0 (by omega) (by simp);simp only[bh_]at h0;rw[addL,x_ h0,List.take_succ_cons,List.drop_succ_cons,aj_];rw[zld (k:=k) (by simpa using h) λj h1 h2=>by have h3:=hj (j+1) (by omega) (by simp;omega);rwa [de_]at h3]
theorem zzv(h:∀ j (_:j<l.length) (h2:j<l.length),ltL l[j] t=true):addL t l=l.take l.length++[t]++l.drop l.length:=by
 rw[zld (le_ _) h];simp[addL]
theorem zyo(hk:k<l.length)(h:∀ j (_:j<k) (h2:j<l.length),ltL l[j] t=true)(he:l[k]=t):addL t l=l:=by
 rw[zld (cr_ hk) h,y_ hk,addL,he,ltL_irr];rw[m_ (by simp),x_ rfl]
 conv=>rhs;rw[<-List.take_append_drop k l,y_ hk,he]
theorem zxz(hk:k<l.length)(h:∀ j (_:j<k) (h2:j<l.length),ltL l[j] t=true)(hn:ltL l[k] t=false)(he:l[k]≠t):addL t l=l.take k++[t]++l.drop k:=by
 rw[zld (cr_ hk) h,y_ hk,addL,hn,m_ (by simp),m_ he];simp
theorem LLs.fore(h:LLs lo hi w (.slice (q_ g 0) n cap) ss xss)(k:Nat)(hk:k<=ss.length):Sl 1 lo hi w (.slice (q_ g 0) k cap) k (ss.take k):=by
 obtain⟨a,c,e,h1,h2,h3,h4,h5⟩:=h.1.sl;injection e with e1 e2 e3;subst e1 e2 e3;refine⟨_,_,rfl,by omega,h2,by simp;omega,h4,λi hi'=>?_⟩;rw[am_]at hi';obtain⟨b,off,f1,f2,f3,f4,f5⟩:=h5 i (by omega);exact⟨b,off,f1,f2,f3,f4,by rw[f5,bb_,x_ (by omega)]⟩
theorem LLs.back(h:LLs lo hi w (.slice (q_ g 0) n cap) ss xss)(k:Nat)(hk:k<=ss.length):Sl 1 lo hi w (.slice (if cap=k then some ⟨g,0,none⟩ else some ⟨g,k,none⟩) (ss.length-k) (cap-k)) (ss.length-k) (ss.drop k):=by
 obtain⟨a,c,e,h1,h2,h3,h4,h5⟩:=h.1.sl;injection e with e1 e2 e3;subst e1 e2 e3;unfold maxLen at h2
 split
 ·rename_i hc
  have h0:ss.length-k=0:=by omega
  rw[az_ (by omega),h0];exact⟨_,_,rfl,aw_ _,by unfold maxLen;omega,rfl,(λh=>by cases h),λi hi'=>by simp at hi'⟩
 ·refine⟨_,_,rfl,by omega,by unfold maxLen;omega,by simp,(λh=>by cases h),λi hi'=>?_⟩
  rw[af_]at hi';obtain⟨b,off,f1,f2,f3,f4,f5⟩:=h5 (k+i) (by omega);injection f1 with f1;injection f1 with f1 f1';subst f1 f1';refine⟨_,_,rfl,f2,f3,f4,?_⟩;rw[du_,<-f5,U_]
theorem zh3 {e:Nat} {xs:List Value}(h:Own 1 lo hi e w v n xs)(h0:xs≠[]):∃ g cap,v=.slice (q_ g 0) n cap:=by
 rcases h.1.2 with⟨e1,h1⟩|⟨g,cap',cur,e1,_⟩
 ·have:=h.1.1
  rw[h1]at this;simp at this;exact absurd this h0
 ·exact⟨g,cap',e1⟩
theorem LLs.zero(lo:Nat)(w:World)(hl:lo<=w):LLs lo (w+1) (w.alloc (.cells #[] 22)) (.slice (q_ w 0) 0 0) [] []:=⟨(ς 1 22 w [] 0 (by omega) rfl).wide2 hl (le_ _),rfl,λi h=>by simp at h⟩
def zfd:=@LLs.zero
def Ε(lo:Nat)(w':World)(v:Value)(xss:List (List Int)):Prop:=∃ g cap ss,v=.slice (q_ g 0) ss.length cap/\LLs lo w' w' v ss xss
theorem zye(lo hi n cap g:Nat)(vt:Value)(ss:List Value)(xss:List (List Int))(t:List Int)(w:World)(hx:LLs lo hi w (.slice (q_ g 0) n cap) ss xss)(ht:γ lo hi 3 w vt t)(hl:lo<=w)(hh:hi<=w)(hm:ss.length<=100000)(hms:∀ x∈xss,x.length<=16777216)(hmt:t.length<=16777216):
  Calls prog 191 #[.slice (q_ g 0) n cap,vt] w (ε λv w'=>Ε lo w' v (addL t xss)/\Below w w w'):=by
 obtain rfl:n=ss.length:=by obtain⟨a,c,e⟩:=θ hx.1;injection e
 have HX:=H_ hx;have HT:=H_ ht;have HMS:=H_ hms;have HLN:=H_ hx.2.1;obtain⟨ta,tc,rfl⟩:=θ ht;obtain⟨_,_,hq,hq1,hq2⟩:=hx.sl.shape;injection hq with hq0 hq3 hq4;subst hq0 hq4;rw[<-hq3]at hq1;unfold maxLen at hq2;clear hx ht hms hq3
 go_enter func191,ntmps191
 go_wp2;go_loopw [5] (λi wr=>∃ k:Nat,k<=ss.length/\i=.int .i64 k/\Q_ (Below w w wr)/\Q_ (∀ j (_:j<k) (h2:j<xss.length),ltL xss[j] t=true)) (λi _=>ss.length-(intOf i).toNat)
 case atStart=>exact⟨0,by omega,rfl,H_ (B_ _ _),H_ (by intro j h;omega)⟩
 case round=>
  rename World=>wr
  obtain⟨k,hk,rfl,HB,HJ⟩:=hrel;have hzr:=HB.o.size;have HXR:=H_ (HX.o.below HB.o hh);have HTR:=H_ (HT.o.below HB.o hh);by_cases hlt:k<ss.length
  ·have hkx:k<xss.length:=by rw[<-HLN.o];exact hlt
   obtain⟨g',e,_,_,hg,hc,hu⟩:=HXR.o.at k hlt hkx;injection e with e;injection e with e;subst e;have HU:=H_ hu;obtain⟨ua,uc,hs⟩:=θ hu;rw[hs]at hc;have HS:=H_ hs;have hlx:=HMS.o _ (u_ hkx);have HUS:=H_ (show SlI lo hi wr (.slice ua xss[k].length uc) xss[k] from by rw[<-hs];exact hu.sl);clear hs hu;go_wp2_with fail
   refine(zqj _ _ _ _ _ _ xss[k] t wr HUS.o HTR.o.sl hlx hmt).mono ?_;rintro e1 w1 ⟨rfl,hb1⟩;have hz1:=hb1.size;have HB1:=HB.tr hb1 hzr;cases hlt2:ltL xss[k] t
   ·(have HLT:=H_ hlt2);(have HU1:=H_ (HUS.o.below hb1 (by omega));have HT1:=H_ (HTR.o.below hb1 (by omega));have hc1:w1.cell? (p_ g k)=some (.slice ua xss[k].length uc):=(hb1.cell (p:=p_ g k) hg).trans hc;clear hb1 hc hlt2;go_wp2_with fail);refine(zla _ _ _ _ _ _ xss[k] t w1 HU1.o HT1.o.sl hlx hmt).mono ?_;rintro e2 w2 ⟨rfl,hb2⟩;have hz2:=hb2.size;have HB2:=HB1.tr hb2 (by omega);cases heq:eqL xss[k] t
    ·(have HA:=H_ (zxz hkx HJ.o HLT.o (λh=>by rw[h,zhc] at heq;cases heq)));clear hb2 heq;have HBW:=HB2;have hzW:=HBW.o.size;have HLW:=H_ (HX.o.below HBW.o hh);have HTW:=H_ (HT.o.below HBW.o hh);have G1:=H_ (η w2 (.cells #[] 22));have G2:=H_ ((η w2 (.cells #[] 22)).trans ((η (w2.alloc (.cells #[] 22)) (.cells #[.slice ta t tc] 22)).mono (by simp)));have G3:=H_ ((η w2 (.cells #[.slice ta t tc] 22)).trans ((η (w2.alloc (.cells #[.slice ta t tc] 22)) (.cells #[] 22)).mono (by simp)));have z1:(w2.alloc (.cells #[] 22)).drew.heap.size=w2.heap.size+1:=by show ((w2.alloc (.cells #[] 22))).heap.size=_;simp
     (have D1:Q_ (Below w2 w2 (w2.alloc (.cells #[] 22)).drew):=H_ (G1.o.drew);have F1:=H_ ((HLW.o.fore (k) (by omega)).below D1.o (by omega));have z2:((w2.alloc (.cells #[] 22)).alloc (.cells #[.slice ta t tc] 22)).drew.heap.size=w2.heap.size+2:=by show (((w2.alloc (.cells #[] 22)).alloc (.cells #[.slice ta t tc] 22))).heap.size=_;simp);(have D2:Q_ (Below w2 w2 ((w2.alloc (.cells #[] 22)).alloc (.cells #[.slice ta t tc] 22)).drew):=H_ (G2.o.drew);have F2:=H_ ((HLW.o.fore (k) (by omega)).below D2.o (by omega));have z3:((w2.alloc (.cells #[.slice ta t tc] 22)).alloc (.cells #[] 22)).drew.heap.size=w2.heap.size+2:=by show (((w2.alloc (.cells #[.slice ta t tc] 22)).alloc (.cells #[] 22))).heap.size=_;simp);(have D3:Q_ (Below w2 w2 ((w2.alloc (.cells #[.slice ta t tc] 22)).alloc (.cells #[] 22)).drew):=H_ (G3.o.drew);have F3:=H_ ((HLW.o.fore (k) (by omega)).below D3.o (by omega));have B1:Q_ (LLs w2 (w2+1) (w2.alloc (.cells #[] 22)).drew (.slice (q_ w2 0) 0 0) [] []):=H_ (LLs.below (zfd w2 w2 (le_ _)) (z_ (B_ (w2+1) _)) (le_ _));have B2:Q_ (LLs w2 (w2+1) ((w2.alloc (.cells #[] 22)).alloc (.cells #[.slice ta t tc] 22)).drew (.slice (q_ w2 0) 0 0) [] []):=H_ ((zfd w2 w2 (le_ _)).below (B:=w2.heap.size+1) (z_ (by rw[<-ν w2 (.cells #[] 22)];exact η (w2.alloc (.cells #[] 22)) (.cells #[.slice ta t tc] 22))) (le_ _));have B3:Q_ (LLs (w2+1) ((w2.heap.size+1)+1) ((w2.alloc (.cells #[.slice ta t tc] 22)).alloc (.cells #[] 22)).drew (.slice (q_ ((w2.heap.size+1)) 0) 0 0) [] []):=H_ (by have h:=zfd (w2.alloc (.cells #[.slice ta t tc] 22)).heap.size (w2.alloc (.cells #[.slice ta t tc] 22)) (le_ _);rw[ν] at h;exact h.below (z_ (B_ (w2.heap.size+1+1) _)) (le_ _));have L2:Q_ (Sl 1 (w2+1) (w2+2) ((w2.alloc (.cells #[] 22)).alloc (.cells #[.slice ta t tc] 22)).drew (.slice (q_ (w2+1) 0) 1 1) 1 [.slice ta t tc]):=H_ (by have h:=(ς 1 22 (w2.alloc (.cells #[] 22)) [.slice ta t tc] 1 (by omega) rfl).sl;rw[ν] at h;exact h.below (z_ (B_ (w2+2) _)) (le_ _));have L3:Q_ (Sl 1 w2 (w2+1) ((w2.alloc (.cells #[.slice ta t tc] 22)).alloc (.cells #[] 22)).drew (.slice (q_ w2 0) 1 1) 1 [.slice ta t tc]):=H_ ((ς 1 22 w2 [.slice ta t tc] 1 (by omega) rfl).sl.below (B:=w2.heap.size+1) (z_ (by rw[<-ν w2 (.cells #[.slice ta t tc] 22)];exact η (w2.alloc (.cells #[.slice ta t tc] 22)) (.cells #[] 22))) (le_ _));have A1:Q_ (Own 1 w2 (w2+1) 22 (w2.alloc (.cells #[] 22)).drew (.slice (q_ w2 0) 0 0) 0 []):=H_ B1.o.1;have A2:Q_ (Own 1 w2 (w2+1) 22 ((w2.alloc (.cells #[] 22)).alloc (.cells #[.slice ta t tc] 22)).drew (.slice (q_ w2 0) 0 0) 0 []):=H_ B2.o.1;have A3:Q_ (Own 1 (w2+1) ((w2.heap.size+1)+1) 22 ((w2.alloc (.cells #[.slice ta t tc] 22)).alloc (.cells #[] 22)).drew (.slice (q_ ((w2.heap.size+1)) 0) 0 0) 0 []):=H_ B3.o.1;have⟨y1,y2,y3,y4,y5,y6⟩:(0:Int)<=((k:Nat):Int)/\((k:Nat):Int)<=(cap:Int)/\k<=cap/\((k:Nat):Int)<=(ss.length:Int)/\(ss.length:Int)<=(cap:Int)/\((ss.length:Int)-((k:Nat):Int)).toNat=ss.length-k:=by omega);(have y7:(0:Int)<=(ss.length:Int):=by omega);(have HBK:=H_ (HLW.o.back (k) (by omega));have ONE:=H_ (show (∀ u∈ss.take (k),u.oneCell'=true)/\∀ u∈ss.drop (k),u.oneCell'=true from ⟨λu hu=>HLW.o.cellsOne u (a7_ hu),λu hu=>HLW.o.cellsOne u (List.mem_of_mem_drop hu)⟩))
     have ROW:=H_ (show ∀ w9:World,Below w2 w2 w9->(∀ i (h1:i<(ss.take (k)).length) (h2:i<(xss.take (k)).length),γ lo w9 3 w9 (ss.take (k))[i] (xss.take (k))[i])/\(∀ i (h1:i<(ss.drop (k)).length) (h2:i<(xss.drop (k)).length),γ lo w9 3 w9 (ss.drop (k))[i] (xss.drop (k))[i])/\γ lo w9 3 w9 (.slice ta t tc) t from λw9 h9=>⟨λi h1 h2=>by
       rw[b1_,b1_];exact((HLW.o.2.2 i (by rw[am_]at h1;omega) (by rw[am_]at h2;omega)).below h9 (by omega)).lower (le_ _) (by have:=h9.size;omega),λi h1 h2=>by
       rw[db_,db_];exact((HLW.o.2.2 (k+i) (by rw[af_]at h1;omega) (by rw[af_]at h2;omega)).below h9 (by omega)).lower (le_ _) (by have:=h9.size;omega),(HTW.o.below h9 (by omega)).lower (le_ _) (by have:=h9.size;omega)⟩)
     (have HLE:=H_ (show (ss.take (k)).length=(xss.take (k)).length/\(ss.drop (k)).length=(xss.drop (k)).length/\(ss.take (k)).length=k/\(ss.drop (k)).length=ss.length-k from ⟨by rw[am_,am_,HLN.o],by rw[af_,af_,HLN.o],by rw[am_];omega,by rw[af_]⟩);go_upto_region 6 with fail);(have HTRUE:True:=trivial;have hcs:¬cap=k:=by omega);rw[m_ hcs]at HBK;have HBC:=H_ HBK.o
     go_region_held3 (λw'=>w'=w'.heap.size) (first | rfl | trivial) (first
      | (refine zbr (by rfl) _ _ 119 (by rfl) 22 () 1 24 underlying119 zag (by rfl) (by decide) (by decide) (by rfl) A1.o (by rfl) F1.o ONE.o.1 (by omega) (by omega) ?_;intro v9 w9 ho9 hout9 hg9;rw[U_,ad_] at ho9;(have s9:=hout9.size);(have J9:=H_ (δ D1.o hout9 (by omega) (by omega)));(have K9:Q_ (LLs lo w9 w9 v9 (ss.take (k)) (xss.take (k))):=H_ (zbg (B1.o.lower (lo':=lo) (by omega) (le_ _)) hg9 (ho9.wide2 (by omega) (le_ _)) (by rw[HLE.o.2.2.1];simp) HLE.o.1 (λi h1 h2=>((ROW.o (w2.alloc (.cells #[] 22)).drew D1.o).1 i h1 h2).lower (le_ _) s9) (by omega)));(have O9:=H_ ho9);(have P9:=H_ (show w2<=w2.heap.size from le_ _));(have X9:Q_ (Sl 1 w9 (w9+1) (w9.alloc (.cells #[.slice ta t tc] 22)) (.slice (q_ w9 0) 1 1) 1 [.slice ta t tc]):=H_ (ς 1 22 w9 [.slice ta t tc] 1 (by omega) rfl).sl);(have Y9:=H_ (J9.o.trans ((η w9 (.cells #[.slice ta t tc] 22)).mono (by omega))));(have O9a:=H_ (O9.o.alloc (.cells #[.slice ta t tc] 22)));(have K9a:=H_ (K9.o.below (η w9 (.cells #[.slice ta t tc] 22)) (by omega)));clear ho9 hout9 hg9)
      | (refine zbr (by rfl) _ _ 119 (by rfl) 22 () 1 24 underlying119 zag (by rfl) (by decide) (by decide) (by rfl) A2.o (by rfl) F2.o ONE.o.1 (by omega) (by omega) ?_;intro v9 w9 ho9 hout9 hg9;rw[U_,ad_] at ho9;(have s9:=hout9.size);(have J9:=H_ (δ D2.o hout9 (by omega) (by omega)));(have K9:Q_ (LLs lo w9 w9 v9 (ss.take (k)) (xss.take (k))):=H_ (zbg (B2.o.lower (lo':=lo) (by omega) (le_ _)) hg9 (ho9.wide2 (by omega) (le_ _)) (by rw[HLE.o.2.2.1];simp) HLE.o.1 (λi h1 h2=>((ROW.o ((w2.alloc (.cells #[] 22)).alloc (.cells #[.slice ta t tc] 22)).drew D2.o).1 i h1 h2).lower (le_ _) s9) (by omega)));(have O9:=H_ ho9);(have P9:=H_ (show w2<=w2.heap.size from le_ _));(have X9:=H_ (L2.o.outside hout9 (by omega)));clear ho9 hout9 hg9)
      | (refine zbr (by rfl) _ _ 119 (by rfl) 22 () 1 24 underlying119 zag (by rfl) (by decide) (by decide) (by rfl) A3.o (by rfl) F3.o ONE.o.1 (by omega) (by omega) ?_;intro v9 w9 ho9 hout9 hg9;rw[U_,ad_] at ho9;(have s9:=hout9.size);(have J9:=H_ (δ D3.o hout9 (by omega) (by omega)));(have K9:Q_ (LLs lo w9 w9 v9 (ss.take (k)) (xss.take (k))):=H_ (zbg (B3.o.lower (lo':=lo) (by omega) (le_ _)) hg9 (ho9.wide2 (by omega) (le_ _)) (by rw[HLE.o.2.2.1];simp) HLE.o.1 (λi h1 h2=>((ROW.o ((w2.alloc (.cells #[.slice ta t tc] 22)).alloc (.cells #[] 22)).drew D3.o).1 i h1 h2).lower (le_ _) s9) (by omega)));(have O9:=H_ ho9);(have P9:=H_ (show (w2.heap.size+1)<=(w2.heap.size+1) from le_ _));(have X9:=H_ (L3.o.outside hout9 (by omega)));clear ho9 hout9 hg9)
      | (refine zbr (by rfl) _ _ 119 (by rfl) 22 () 1 24 underlying119 zag (by rfl) (by decide) (by decide) (by rfl) O9a.o (by rfl) X9.o (by intro u hu;simp only[k_] at hu;subst hu;rfl) (by omega) (by simp only[ν];omega) ?_;intro v10 w10 ho10 hout10 hg10;(have s10:w9<=w10.heap.size:=J_ (η w9 (.cells #[.slice ta t tc] 22)).size hout10.size);(have J10:=H_ (δ Y9.o hout10 (by omega) (by simp only[ν];omega)));(have K10:Q_ (LLs lo w10 w10 v10 (ss.take (k)++[.slice ta t tc]) (xss.take (k)++[t])):=H_ (zbg K9a.o hg10 (ho10.wide2 (by omega) (le_ _)) (by rw[HLE.o.2.2.1];rfl) (yss:=[t]) rfl (λi h1 h2=>by (have e0:i=0:=by (simp at h1;omega));subst e0;exact((ROW.o (w9.alloc (.cells #[.slice ta t tc] 22)) Y9.o).2.2).lower (le_ _) hout10.size) (by omega)));(have O10:=H_ ho10);clear ho10 hout10 hg10)
      | (refine zbr (by rfl) _ _ 119 (by rfl) 22 () 1 24 underlying119 zag (by rfl) (by decide) (by decide) (by rfl) O9.o (by rfl) X9.o (by intro u hu;simp only[k_] at hu;subst hu;rfl) (by omega) (by omega) ?_;intro v10 w10 ho10 hout10 hg10;(have s10:w9<=w10.heap.size:=J_ (B_ w9 w9).size hout10.size);(have J10:=H_ (δ J9.o hout10 (by omega) (by omega)));(have K10:Q_ (LLs lo w10 w10 v10 (ss.take (k)++[.slice ta t tc]) (xss.take (k)++[t])):=H_ (zbg K9.o hg10 (ho10.wide2 (by omega) (le_ _)) (by rw[HLE.o.2.2.1];rfl) (yss:=[t]) rfl (λi h1 h2=>by (have e0:i=0:=by (simp at h1;omega));subst e0;exact((ROW.o w9 J9.o).2.2).lower (le_ _) hout10.size) (by omega)));(have O10:=H_ ho10);clear ho10 hout10 hg10)
      | (refine zbr (by rfl) _ _ 119 (by rfl) 22 () 1 24 underlying119 zag (by rfl) (by decide) (by decide) (by rfl) O9.o (by rfl) X9.o (by intro u hu;simp only[k_] at hu;subst hu;rfl) (by omega) (by omega) ?_;intro v10 w10 ho10 hout10 hg10;(have s10:w9<=w10.heap.size:=J_ (B_ w9 w9).size hout10.size);(have J10:=H_ (δ J9.o hout10 (by omega) (by omega)));(have K10:Q_ (LLs lo w10 w10 v10 (ss.take (k)++[.slice ta t tc]) (xss.take (k)++[t])):=H_ (zbg K9.o hg10 (ho10.wide2 (by omega) (le_ _)) (by rw[HLE.o.2.2.1];rfl) (yss:=[t]) rfl (λi h1 h2=>by (have e0:i=0:=by (simp at h1;omega));subst e0;exact((ROW.o w9 J9.o).2.2).lower (le_ _) hout10.size) (by omega)));(have O10:=H_ ho10);clear ho10 hout10 hg10)
      | (refine zbr (by rfl) _ _ 119 (by rfl) 22 () 1 24 underlying119 zag (by rfl) (by decide) (by decide) (by rfl) O10.o (by rfl) (zco HBC.o J10.o (by omega)) ONE.o.2 (by omega) (by omega) ?_;intro v11 w11 ho11 hout11 hg11;(have J11:=H_ (δ J10.o hout11 (by omega) (by omega)));(have K11:=H_ (zbg K10.o hg11 (ho11.wide2 (by omega) (le_ _)) (by rw[n_,HLE.o.2.2.1,HLE.o.2.2.2];rfl) HLE.o.2.1 (λi h1 h2=>((ROW.o w10 J10.o).2.1 i h1 h2).lower (le_ _) hout11.size) hout11.size));(have O11:=H_ ho11);clear ho11 hout11 hg11))
     all_goals (
      obtain⟨g11,c11,hv11⟩:=zh3 O11.o (by simp);subst hv11;have HR:=H_ (show Ε lo w11 (.slice (q_ g11 0) (k+1+(ss.length-k)) c11) (addL t xss)/\Below w w w11 from ⟨⟨g11,c11,ss.take (k)++[.slice ta t tc]++ss.drop (k),by rw[n_,n_,HLE.o.2.2.1,HLE.o.2.2.2];rfl,by rw[HA.o];exact K11.o⟩,HBW.o.trans (J11.o.mono hzW)⟩);go_wp2;go_ret;exact ε.mk _ rfl HR.o)
    ·(have HA:=H_ (zyo hkx HJ.o (by rw[zem] at heq;exact av_ heq)));clear hb2 heq;go_wp2;go_ret;exact ε.mk _ rfl ⟨⟨_,_,ss,rfl,by rw[HA.o];exact(HX.o.below HB2.o hh).lower (le_ _) (by omega)⟩,HB2.o⟩
   ·have HJN:=H_ (show ∀ j (_:j<k+1) (h2:j<xss.length),ltL xss[j] t=true from λj h1 h2=>by
     rcases bi_ j k with h|h
     ·exact HJ.o j h h2
     ·(obtain rfl:j=k:=by omega);exact hlt2)
    clear hb1 hlt2;go_wp2;go_roundw
    (case rel=>exact⟨k+1,by omega,by go_num,HB1,HJN⟩);case measure=>simp[intOf];omega
  ·have HKE:=H_ (show k=ss.length by omega)
   have hd0:decide ((k:Int)<(ss.length:Int))=false:=by simp;omega
   have HA:=H_ (show addL t xss=xss.take k++[t]++xss.drop k from by rw[HKE.o,HLN.o];exact zzv (λj h1 h2=>HJ.o j (by rw[HKE.o,HLN.o];exact h1) h2));have HBW:=HB;have hzW:=HBW.o.size;have HLW:=H_ (HX.o.below HBW.o hh);have HTW:=H_ (HT.o.below HBW.o hh);have G1:=H_ (η wr (.cells #[] 22));have G2:=H_ ((η wr (.cells #[] 22)).trans ((η (wr.alloc (.cells #[] 22)) (.cells #[.slice ta t tc] 22)).mono (by simp)));have G3:=H_ ((η wr (.cells #[.slice ta t tc] 22)).trans ((η (wr.alloc (.cells #[.slice ta t tc] 22)) (.cells #[] 22)).mono (by simp)));have z1:(wr.alloc (.cells #[] 22)).drew.heap.size=wr.heap.size+1:=by show ((wr.alloc (.cells #[] 22))).heap.size=_;simp
   have D1:Q_ (Below wr wr (wr.alloc (.cells #[] 22)).drew):=H_ (G1.o.drew);have F1:=H_ ((HLW.o.fore (k) (by omega)).below D1.o (by omega));have z2:((wr.alloc (.cells #[] 22)).alloc (.cells #[.slice ta t tc] 22)).drew.heap.size=wr.heap.size+2:=by show (((wr.alloc (.cells #[] 22)).alloc (.cells #[.slice ta t tc] 22))).heap.size=_;simp
   have D2:Q_ (Below wr wr ((wr.alloc (.cells #[] 22)).alloc (.cells #[.slice ta t tc] 22)).drew):=H_ (G2.o.drew);have F2:=H_ ((HLW.o.fore (k) (by omega)).below D2.o (by omega));have z3:((wr.alloc (.cells #[.slice ta t tc] 22)).alloc (.cells #[] 22)).drew.heap.size=wr.heap.size+2:=by show (((wr.alloc (.cells #[.slice ta t tc] 22)).alloc (.cells #[] 22))).heap.size=_;simp
   have D3:Q_ (Below wr wr ((wr.alloc (.cells #[.slice ta t tc] 22)).alloc (.cells #[] 22)).drew):=H_ (G3.o.drew);have F3:=H_ ((HLW.o.fore (k) (by omega)).below D3.o (by omega));have B1:Q_ (LLs wr (wr+1) (wr.alloc (.cells #[] 22)).drew (.slice (q_ wr 0) 0 0) [] []):=H_ (LLs.below (zfd wr wr (le_ _)) (z_ (B_ (wr+1) _)) (le_ _));have B2:Q_ (LLs wr (wr+1) ((wr.alloc (.cells #[] 22)).alloc (.cells #[.slice ta t tc] 22)).drew (.slice (q_ wr 0) 0 0) [] []):=H_ ((zfd wr wr (le_ _)).below (B:=wr.heap.size+1) (z_ (by rw[<-ν wr (.cells #[] 22)];exact η (wr.alloc (.cells #[] 22)) (.cells #[.slice ta t tc] 22))) (le_ _));have B3:Q_ (LLs (wr+1) ((wr.heap.size+1)+1) ((wr.alloc (.cells #[.slice ta t tc] 22)).alloc (.cells #[] 22)).drew (.slice (q_ ((wr.heap.size+1)) 0) 0 0) [] []):=H_ (by have h:=zfd (wr.alloc (.cells #[.slice ta t tc] 22)).heap.size (wr.alloc (.cells #[.slice ta t tc] 22)) (le_ _);rw[ν] at h;exact h.below (z_ (B_ (wr.heap.size+1+1) _)) (le_ _));have L2:Q_ (Sl 1 (wr+1) (wr+2) ((wr.alloc (.cells #[] 22)).alloc (.cells #[.slice ta t tc] 22)).drew (.slice (q_ (wr+1) 0) 1 1) 1 [.slice ta t tc]):=H_ (by have h:=(ς 1 22 (wr.alloc (.cells #[] 22)) [.slice ta t tc] 1 (by omega) rfl).sl;rw[ν] at h;exact h.below (z_ (B_ (wr+2) _)) (le_ _));have L3:Q_ (Sl 1 wr (wr+1) ((wr.alloc (.cells #[.slice ta t tc] 22)).alloc (.cells #[] 22)).drew (.slice (q_ wr 0) 1 1) 1 [.slice ta t tc]):=H_ ((ς 1 22 wr [.slice ta t tc] 1 (by omega) rfl).sl.below (B:=wr.heap.size+1) (z_ (by rw[<-ν wr (.cells #[.slice ta t tc] 22)];exact η (wr.alloc (.cells #[.slice ta t tc] 22)) (.cells #[] 22))) (le_ _));have A1:Q_ (Own 1 wr (wr+1) 22 (wr.alloc (.cells #[] 22)).drew (.slice (q_ wr 0) 0 0) 0 []):=H_ B1.o.1;have A2:Q_ (Own 1 wr (wr+1) 22 ((wr.alloc (.cells #[] 22)).alloc (.cells #[.slice ta t tc] 22)).drew (.slice (q_ wr 0) 0 0) 0 []):=H_ B2.o.1;have A3:Q_ (Own 1 (wr+1) ((wr.heap.size+1)+1) 22 ((wr.alloc (.cells #[.slice ta t tc] 22)).alloc (.cells #[] 22)).drew (.slice (q_ ((wr.heap.size+1)) 0) 0 0) 0 []):=H_ B3.o.1;have⟨y1,y2,y3,y4,y5,y6⟩:(0:Int)<=((k:Nat):Int)/\((k:Nat):Int)<=(cap:Int)/\k<=cap/\((k:Nat):Int)<=(ss.length:Int)/\(ss.length:Int)<=(cap:Int)/\((ss.length:Int)-((k:Nat):Int)).toNat=ss.length-k:=by omega
   have y7:(0:Int)<=(ss.length:Int):=by omega
   have HBK:=H_ (HLW.o.back (k) (by omega));have ONE:=H_ (show (∀ u∈ss.take (k),u.oneCell'=true)/\∀ u∈ss.drop (k),u.oneCell'=true from ⟨λu hu=>HLW.o.cellsOne u (a7_ hu),λu hu=>HLW.o.cellsOne u (List.mem_of_mem_drop hu)⟩)
   have ROW:=H_ (show ∀ w9:World,Below wr wr w9->(∀ i (h1:i<(ss.take (k)).length) (h2:i<(xss.take (k)).length),γ lo w9 3 w9 (ss.take (k))[i] (xss.take (k))[i])/\(∀ i (h1:i<(ss.drop (k)).length) (h2:i<(xss.drop (k)).length),γ lo w9 3 w9 (ss.drop (k))[i] (xss.drop (k))[i])/\γ lo w9 3 w9 (.slice ta t tc) t from λw9 h9=>⟨λi h1 h2=>by
     rw[b1_,b1_];exact((HLW.o.2.2 i (by rw[am_]at h1;omega) (by rw[am_]at h2;omega)).below h9 (by omega)).lower (le_ _) (by have:=h9.size;omega),λi h1 h2=>by
     rw[db_,db_];exact((HLW.o.2.2 (k+i) (by rw[af_]at h1;omega) (by rw[af_]at h2;omega)).below h9 (by omega)).lower (le_ _) (by have:=h9.size;omega),(HTW.o.below h9 (by omega)).lower (le_ _) (by have:=h9.size;omega)⟩)
   have HLE:=H_ (show (ss.take (k)).length=(xss.take (k)).length/\(ss.drop (k)).length=(xss.drop (k)).length/\(ss.take (k)).length=k/\(ss.drop (k)).length=ss.length-k from ⟨by rw[am_,am_,HLN.o],by rw[af_,af_,HLN.o],by rw[am_];omega,by rw[af_]⟩);go_upto_region 6 with fail
   have HTRUE:True:=trivial;rcases (show cap=k\/¬cap=k by omega) with hcs|hcs
   ·rw[x_ hcs,hcs,be_,show ss.length-k=0 by rw[HKE.o,be_]]at HBK
    rw[show ss.length-k=0 by rw[HKE.o,be_]]at HLE;have HBC:=H_ HBK.o;have hcs':=hcs.symm;clear hcs HBK;subst hcs'
    go_region_held3 (λw'=>w'=w'.heap.size) (first | rfl | trivial) (first
     | (refine zbr (by rfl) _ _ 119 (by rfl) 22 () 1 24 underlying119 zag (by rfl) (by decide) (by decide) (by rfl) A1.o (by rfl) F1.o ONE.o.1 (by omega) (by omega) ?_;intro v9 w9 ho9 hout9 hg9;rw[U_,ad_] at ho9;(have s9:=hout9.size);(have J9:=H_ (δ D1.o hout9 (by omega) (by omega)));(have K9:Q_ (LLs lo w9 w9 v9 (ss.take (k)) (xss.take (k))):=H_ (zbg (B1.o.lower (lo':=lo) (by omega) (le_ _)) hg9 (ho9.wide2 (by omega) (le_ _)) (by rw[HLE.o.2.2.1];simp) HLE.o.1 (λi h1 h2=>((ROW.o (wr.alloc (.cells #[] 22)).drew D1.o).1 i h1 h2).lower (le_ _) s9) (by omega)));(have O9:=H_ ho9);(have P9:=H_ (show wr<=wr.heap.size from le_ _));(have X9:Q_ (Sl 1 w9 (w9+1) (w9.alloc (.cells #[.slice ta t tc] 22)) (.slice (q_ w9 0) 1 1) 1 [.slice ta t tc]):=H_ (ς 1 22 w9 [.slice ta t tc] 1 (by omega) rfl).sl);(have Y9:=H_ (J9.o.trans ((η w9 (.cells #[.slice ta t tc] 22)).mono (by omega))));(have O9a:=H_ (O9.o.alloc (.cells #[.slice ta t tc] 22)));(have K9a:=H_ (K9.o.below (η w9 (.cells #[.slice ta t tc] 22)) (by omega)));clear ho9 hout9 hg9)
     | (refine zbr (by rfl) _ _ 119 (by rfl) 22 () 1 24 underlying119 zag (by rfl) (by decide) (by decide) (by rfl) A2.o (by rfl) F2.o ONE.o.1 (by omega) (by omega) ?_;intro v9 w9 ho9 hout9 hg9;rw[U_,ad_] at ho9;(have s9:=hout9.size);(have J9:=H_ (δ D2.o hout9 (by omega) (by omega)));(have K9:Q_ (LLs lo w9 w9 v9 (ss.take (k)) (xss.take (k))):=H_ (zbg (B2.o.lower (lo':=lo) (by omega) (le_ _)) hg9 (ho9.wide2 (by omega) (le_ _)) (by rw[HLE.o.2.2.1];simp) HLE.o.1 (λi h1 h2=>((ROW.o ((wr.alloc (.cells #[] 22)).alloc (.cells #[.slice ta t tc] 22)).drew D2.o).1 i h1 h2).lower (le_ _) s9) (by omega)));(have O9:=H_ ho9);(have P9:=H_ (show wr<=wr.heap.size from le_ _));(have X9:=H_ (L2.o.outside hout9 (by omega)));clear ho9 hout9 hg9)
     | (refine zbr (by rfl) _ _ 119 (by rfl) 22 () 1 24 underlying119 zag (by rfl) (by decide) (by decide) (by rfl) A3.o (by rfl) F3.o ONE.o.1 (by omega) (by omega) ?_;intro v9 w9 ho9 hout9 hg9;rw[U_,ad_] at ho9;(have s9:=hout9.size);(have J9:=H_ (δ D3.o hout9 (by omega) (by omega)));(have K9:Q_ (LLs lo w9 w9 v9 (ss.take (k)) (xss.take (k))):=H_ (zbg (B3.o.lower (lo':=lo) (by omega) (le_ _)) hg9 (ho9.wide2 (by omega) (le_ _)) (by rw[HLE.o.2.2.1];simp) HLE.o.1 (λi h1 h2=>((ROW.o ((wr.alloc (.cells #[.slice ta t tc] 22)).alloc (.cells #[] 22)).drew D3.o).1 i h1 h2).lower (le_ _) s9) (by omega)));(have O9:=H_ ho9);(have P9:=H_ (show (wr.heap.size+1)<=(wr.heap.size+1) from le_ _));(have X9:=H_ (L3.o.outside hout9 (by omega)));clear ho9 hout9 hg9)
     | (refine zbr (by rfl) _ _ 119 (by rfl) 22 () 1 24 underlying119 zag (by rfl) (by decide) (by decide) (by rfl) O9a.o (by rfl) X9.o (by intro u hu;simp only[k_] at hu;subst hu;rfl) (by omega) (by simp only[ν];omega) ?_;intro v10 w10 ho10 hout10 hg10;(have s10:w9<=w10.heap.size:=J_ (η w9 (.cells #[.slice ta t tc] 22)).size hout10.size);(have J10:=H_ (δ Y9.o hout10 (by omega) (by simp only[ν];omega)));(have K10:Q_ (LLs lo w10 w10 v10 (ss.take (k)++[.slice ta t tc]) (xss.take (k)++[t])):=H_ (zbg K9a.o hg10 (ho10.wide2 (by omega) (le_ _)) (by rw[HLE.o.2.2.1];rfl) (yss:=[t]) rfl (λi h1 h2=>by (have e0:i=0:=by (simp at h1;omega));subst e0;exact((ROW.o (w9.alloc (.cells #[.slice ta t tc] 22)) Y9.o).2.2).lower (le_ _) hout10.size) (by omega)));(have O10:=H_ ho10);clear ho10 hout10 hg10)
     | (refine zbr (by rfl) _ _ 119 (by rfl) 22 () 1 24 underlying119 zag (by rfl) (by decide) (by decide) (by rfl) O9.o (by rfl) X9.o (by intro u hu;simp only[k_] at hu;subst hu;rfl) (by omega) (by omega) ?_;intro v10 w10 ho10 hout10 hg10;(have s10:w9<=w10.heap.size:=J_ (B_ w9 w9).size hout10.size);(have J10:=H_ (δ J9.o hout10 (by omega) (by omega)));(have K10:Q_ (LLs lo w10 w10 v10 (ss.take (k)++[.slice ta t tc]) (xss.take (k)++[t])):=H_ (zbg K9.o hg10 (ho10.wide2 (by omega) (le_ _)) (by rw[HLE.o.2.2.1];rfl) (yss:=[t]) rfl (λi h1 h2=>by (have e0:i=0:=by (simp at h1;omega));subst e0;exact((ROW.o w9 J9.o).2.2).lower (le_ _) hout10.size) (by omega)));(have O10:=H_ ho10);clear ho10 hout10 hg10)
     | (refine zbr (by rfl) _ _ 119 (by rfl) 22 () 1 24 underlying119 zag (by rfl) (by decide) (by decide) (by rfl) O9.o (by rfl) X9.o (by intro u hu;simp only[k_] at hu;subst hu;rfl) (by omega) (by omega) ?_;intro v10 w10 ho10 hout10 hg10;(have s10:w9<=w10.heap.size:=J_ (B_ w9 w9).size hout10.size);(have J10:=H_ (δ J9.o hout10 (by omega) (by omega)));(have K10:Q_ (LLs lo w10 w10 v10 (ss.take (k)++[.slice ta t tc]) (xss.take (k)++[t])):=H_ (zbg K9.o hg10 (ho10.wide2 (by omega) (le_ _)) (by rw[HLE.o.2.2.1];rfl) (yss:=[t]) rfl (λi h1 h2=>by (have e0:i=0:=by (simp at h1;omega));subst e0;exact((ROW.o w9 J9.o).2.2).lower (le_ _) hout10.size) (by omega)));(have O10:=H_ ho10);clear ho10 hout10 hg10)
     | (refine zbr (by rfl) _ _ 119 (by rfl) 22 () 1 24 underlying119 zag (by rfl) (by decide) (by decide) (by rfl) O10.o (by rfl) (zco HBC.o J10.o (by omega)) ONE.o.2 (by omega) (by omega) ?_;intro v11 w11 ho11 hout11 hg11;(have J11:=H_ (δ J10.o hout11 (by omega) (by omega)));(have K11:=H_ (zbg K10.o hg11 (ho11.wide2 (by omega) (le_ _)) (by rw[n_,HLE.o.2.2.1,HLE.o.2.2.2];rfl) HLE.o.2.1 (λi h1 h2=>((ROW.o w10 J10.o).2.1 i h1 h2).lower (le_ _) hout11.size) hout11.size));(have O11:=H_ ho11);clear ho11 hout11 hg11))
    all_goals (
     obtain⟨g11,c11,hv11⟩:=zh3 O11.o (by simp);subst hv11;have HR:=H_ (show Ε lo w11 (.slice (q_ g11 0) (k+1+(0)) c11) (addL t xss)/\Below w w w11 from ⟨⟨g11,c11,ss.take (k)++[.slice ta t tc]++ss.drop (k),by rw[n_,n_,HLE.o.2.2.1,HLE.o.2.2.2];rfl,by rw[HA.o];exact K11.o⟩,HBW.o.trans (J11.o.mono hzW)⟩);go_wp2;go_ret;exact ε.mk _ rfl HR.o)
   ·rw[m_ hcs]at HBK
    (have HBC:=H_ HBK.o)
    go_region_held3 (λw'=>w'=w'.heap.size) (first | rfl | trivial) (first
     | (refine zbr (by rfl) _ _ 119 (by rfl) 22 () 1 24 underlying119 zag (by rfl) (by decide) (by decide) (by rfl) A1.o (by rfl) F1.o ONE.o.1 (by omega) (by omega) ?_;intro v9 w9 ho9 hout9 hg9;rw[U_,ad_] at ho9;(have s9:=hout9.size);(have J9:=H_ (δ D1.o hout9 (by omega) (by omega)));(have K9:Q_ (LLs lo w9 w9 v9 (ss.take (k)) (xss.take (k))):=H_ (zbg (B1.o.lower (lo':=lo) (by omega) (le_ _)) hg9 (ho9.wide2 (by omega) (le_ _)) (by rw[HLE.o.2.2.1];simp) HLE.o.1 (λi h1 h2=>((ROW.o (wr.alloc (.cells #[] 22)).drew D1.o).1 i h1 h2).lower (le_ _) s9) (by omega)));(have O9:=H_ ho9);(have P9:=H_ (show wr<=wr.heap.size from le_ _));(have X9:Q_ (Sl 1 w9 (w9+1) (w9.alloc (.cells #[.slice ta t tc] 22)) (.slice (q_ w9 0) 1 1) 1 [.slice ta t tc]):=H_ (ς 1 22 w9 [.slice ta t tc] 1 (by omega) rfl).sl);(have Y9:=H_ (J9.o.trans ((η w9 (.cells #[.slice ta t tc] 22)).mono (by omega))));(have O9a:=H_ (O9.o.alloc (.cells #[.slice ta t tc] 22)));(have K9a:=H_ (K9.o.below (η w9 (.cells #[.slice ta t tc] 22)) (by omega)));clear ho9 hout9 hg9)
     | (refine zbr (by rfl) _ _ 119 (by rfl) 22 () 1 24 underlying119 zag (by rfl) (by decide) (by decide) (by rfl) A2.o (by rfl) F2.o ONE.o.1 (by omega) (by omega) ?_;intro v9 w9 ho9 hout9 hg9;rw[U_,ad_] at ho9;(have s9:=hout9.size);(have J9:=H_ (δ D2.o hout9 (by omega) (by omega)));(have K9:Q_ (LLs lo w9 w9 v9 (ss.take (k)) (xss.take (k))):=H_ (zbg (B2.o.lower (lo':=lo) (by omega) (le_ _)) hg9 (ho9.wide2 (by omega) (le_ _)) (by rw[HLE.o.2.2.1];simp) HLE.o.1 (λi h1 h2=>((ROW.o ((wr.alloc (.cells #[] 22)).alloc (.cells #[.slice ta t tc] 22)).drew D2.o).1 i h1 h2).lower (le_ _) s9) (by omega)));(have O9:=H_ ho9);(have P9:=H_ (show wr<=wr.heap.size from le_ _));(have X9:=H_ (L2.o.outside hout9 (by omega)));clear ho9 hout9 hg9)
     | (refine zbr (by rfl) _ _ 119 (by rfl) 22 () 1 24 underlying119 zag (by rfl) (by decide) (by decide) (by rfl) A3.o (by rfl) F3.o ONE.o.1 (by omega) (by omega) ?_;intro v9 w9 ho9 hout9 hg9;rw[U_,ad_] at ho9;(have s9:=hout9.size);(have J9:=H_ (δ D3.o hout9 (by omega) (by omega)));(have K9:Q_ (LLs lo w9 w9 v9 (ss.take (k)) (xss.take (k))):=H_ (zbg (B3.o.lower (lo':=lo) (by omega) (le_ _)) hg9 (ho9.wide2 (by omega) (le_ _)) (by rw[HLE.o.2.2.1];simp) HLE.o.1 (λi h1 h2=>((ROW.o ((wr.alloc (.cells #[.slice ta t tc] 22)).alloc (.cells #[] 22)).drew D3.o).1 i h1 h2).lower (le_ _) s9) (by omega)));(have O9:=H_ ho9);(have P9:=H_ (show (wr.heap.size+1)<=(wr.heap.size+1) from le_ _));(have X9:=H_ (L3.o.outside hout9 (by omega)));clear ho9 hout9 hg9)
     | (refine zbr (by rfl) _ _ 119 (by rfl) 22 () 1 24 underlying119 zag (by rfl) (by decide) (by decide) (by rfl) O9a.o (by rfl) X9.o (by intro u hu;simp only[k_] at hu;subst hu;rfl) (by omega) (by simp only[ν];omega) ?_;intro v10 w10 ho10 hout10 hg10;(have s10:w9<=w10.heap.size:=J_ (η w9 (.cells #[.slice ta t tc] 22)).size hout10.size);(have J10:=H_ (δ Y9.o hout10 (by omega) (by simp only[ν];omega)));(have K10:Q_ (LLs lo w10 w10 v10 (ss.take (k)++[.slice ta t tc]) (xss.take (k)++[t])):=H_ (zbg K9a.o hg10 (ho10.wide2 (by omega) (le_ _)) (by rw[HLE.o.2.2.1];rfl) (yss:=[t]) rfl (λi h1 h2=>by (have e0:i=0:=by (simp at h1;omega));subst e0;exact((ROW.o (w9.alloc (.cells #[.slice ta t tc] 22)) Y9.o).2.2).lower (le_ _) hout10.size) (by omega)));(have O10:=H_ ho10);clear ho10 hout10 hg10)
     | (refine zbr (by rfl) _ _ 119 (by rfl) 22 () 1 24 underlying119 zag (by rfl) (by decide) (by decide) (by rfl) O9.o (by rfl) X9.o (by intro u hu;simp only[k_] at hu;subst hu;rfl) (by omega) (by omega) ?_;intro v10 w10 ho10 hout10 hg10;(have s10:w9<=w10.heap.size:=J_ (B_ w9 w9).size hout10.size);(have J10:=H_ (δ J9.o hout10 (by omega) (by omega)));(have K10:Q_ (LLs lo w10 w10 v10 (ss.take (k)++[.slice ta t tc]) (xss.take (k)++[t])):=H_ (zbg K9.o hg10 (ho10.wide2 (by omega) (le_ _)) (by rw[HLE.o.2.2.1];rfl) (yss:=[t]) rfl (λi h1 h2=>by (have e0:i=0:=by (simp at h1;omega));subst e0;exact((ROW.o w9 J9.o).2.2).lower (le_ _) hout10.size) (by omega)));(have O10:=H_ ho10);clear ho10 hout10 hg10)
     | (refine zbr (by rfl) _ _ 119 (by rfl) 22 () 1 24 underlying119 zag (by rfl) (by decide) (by decide) (by rfl) O9.o (by rfl) X9.o (by intro u hu;simp only[k_] at hu;subst hu;rfl) (by omega) (by omega) ?_;intro v10 w10 ho10 hout10 hg10;(have s10:w9<=w10.heap.size:=J_ (B_ w9 w9).size hout10.size);(have J10:=H_ (δ J9.o hout10 (by omega) (by omega)));(have K10:Q_ (LLs lo w10 w10 v10 (ss.take (k)++[.slice ta t tc]) (xss.take (k)++[t])):=H_ (zbg K9.o hg10 (ho10.wide2 (by omega) (le_ _)) (by rw[HLE.o.2.2.1];rfl) (yss:=[t]) rfl (λi h1 h2=>by (have e0:i=0:=by (simp at h1;omega));subst e0;exact((ROW.o w9 J9.o).2.2).lower (le_ _) hout10.size) (by omega)));(have O10:=H_ ho10);clear ho10 hout10 hg10)
     | (refine zbr (by rfl) _ _ 119 (by rfl) 22 () 1 24 underlying119 zag (by rfl) (by decide) (by decide) (by rfl) O10.o (by rfl) (zco HBC.o J10.o (by omega)) ONE.o.2 (by omega) (by omega) ?_;intro v11 w11 ho11 hout11 hg11;(have J11:=H_ (δ J10.o hout11 (by omega) (by omega)));(have K11:=H_ (zbg K10.o hg11 (ho11.wide2 (by omega) (le_ _)) (by rw[n_,HLE.o.2.2.1,HLE.o.2.2.2];rfl) HLE.o.2.1 (λi h1 h2=>((ROW.o w10 J10.o).2.1 i h1 h2).lower (le_ _) hout11.size) hout11.size));(have O11:=H_ ho11);clear ho11 hout11 hg11))
    all_goals (
     obtain⟨g11,c11,hv11⟩:=zh3 O11.o (by simp);subst hv11;have HR:=H_ (show Ε lo w11 (.slice (q_ g11 0) (k+1+(ss.length-k)) c11) (addL t xss)/\Below w w w11 from ⟨⟨g11,c11,ss.take (k)++[.slice ta t tc]++ss.drop (k),by rw[n_,n_,HLE.o.2.2.1,HLE.o.2.2.2];rfl,by rw[HA.o];exact K11.o⟩,HBW.o.trans (J11.o.mono hzW)⟩);go_wp2;go_ret;exact ε.mk _ rfl HR.o)
theorem Ε.go(h:Ε lo w v xss)(hb:Below w w w'):Ε lo w' v xss:=by
 obtain⟨g,cap,ss,rfl,h1⟩:=h;exact⟨g,cap,ss,rfl,(h1.below hb (le_ _)).lower (le_ _) hb.size⟩
theorem Ε.low(h:Ε lo w v xss)(hl:lo'<=lo):Ε lo' w v xss:=by
 obtain⟨g,cap,ss,rfl,h1⟩:=h;exact⟨g,cap,ss,rfl,h1.lower hl (le_ _)⟩
theorem Ε.shape(h:Ε lo w v xss):∃ g cap,v=.slice (q_ g 0) xss cap:=by
 obtain⟨g,cap,ss,rfl,h1⟩:=h;exact⟨g,cap,by rw[h1.2.1]⟩
theorem Ε.shapeN(h:Ε lo w v xss):∃ g n cap,v=.slice (q_ g 0) n cap:=by
 obtain⟨g,cap,ss,rfl,h1⟩:=h;exact⟨g,_,cap,rfl⟩
theorem Ε.sl(h:Ε lo w v xss):za5 lo w w v xss:=by
 obtain⟨g,cap,ss,rfl,h1⟩:=h;exact h1.sl
theorem Ε.at(h:Ε lo w (.slice (q_ g 0) n cap) xss)(i:Nat)(hi:i<xss.length):
  ∃ u,g<w/\w.cell? (p_ g i)=some u/\γ lo w 3 w u xss[i]:=by
 obtain⟨g',cap',ss,e,h1⟩:=h;injection e with e1 e2 e3;injection e1 with e1;injection e1 with e1;subst e1 e2 e3;obtain⟨g',e,_,_,hg,hc,hu⟩:=h1.at i (by rw[h1.2.1];exact hi) hi;injection e with e;injection e with e;subst e;exact⟨_,hg,hc,hu⟩
theorem zkn(lo:Nat)(v vt:Value)(xss:List (List Int))(t:List Int)(w:World)(hx:Ε lo w v xss)(ht:γ lo w 3 w vt t)(hl:lo<=w)(hm:xss.length<=100000)(hms:∀ x∈xss,x.length<=16777216)(hmt:t.length<=16777216):
  Calls prog 191 #[v,vt] w (ε λv w'=>Ε lo w' v (addL t xss)/\Below w w w'):=by
 obtain⟨g,cap,ss,rfl,h1⟩:=hx;exact zye lo w _ cap g vt ss xss t w h1 ht hl (le_ _) (by rw[h1.2.1];exact hm) hms hmt
theorem zn0(lo hi lo' hi':Nat)(va vb:Value)(xs ys:List Int)(w:World)(hx:SlI lo hi w va xs)(hy:SlI lo' hi' w vb ys)(hh:hi<=w)(hh':hi'<=w)(hm:xs.length+ys.length<=4000000):
  Calls prog 192 #[va,vb] w (ε λv w'=>Below w w w'/\γ w w' 3 w' v (behV xs ys)):=by
 have HX:=H_ hx;have HY:=H_ hy;have⟨w0,hw0⟩:=xa_ w #[(15:Int)] 3;have hb0:Below w w w0:=by rw[hw0];exact η _ _
 have hs0:w0=w.heap.size+1:=by rw[hw0];simp
 have HL:Q_ (SlI w w0 w0 (.slice (q_ w 0) 1 1) [15]):=H_ (by
  have h:=(ς 1 3 w (ints [15]) 1 (by omega) rfl).sl;rw[hs0,hw0];exact h)
 have HX0:=H_ (hx.below hb0 hh);have HB0:=H_ hb0;have HW:=H_ hw0;obtain⟨aa,ac,rfl,_,_⟩:=ο hx;obtain⟨ba,bc,rfl,_,_⟩:=ο hy;clear hx hy hb0 hw0
 go_enter func192,ntmps192
 go_wp2_with (rw[<-HW.o])
 refine(zla _ _ _ _ _ _ xs [15] w0 HX0.o HL.o (by omega) (by simp)).mono ?_;rintro e1 w1 ⟨rfl,hb1⟩;have hs1:=hb1.size;have HB1:=HB0.tr hb1 (by omega);have HX1:=H_ (HX.o.below HB1.o hh);have HY1:=H_ (HY.o.below HB1.o hh');clear hb1 HW HL HX0 HB0;cases heq:eqL xs [15]
 ·have HE:=H_ (show behV xs ys=xs++ys++[19] by unfold behV;rw[m_ (λh=>by rw[h,zhc] at heq;cases heq)])
  clear heq;go_wp2_with fail
  refine(zan _ _ _ _ _ _ xs ys 19 w1 HX1.o HY1.o (by omega) (by omega) (by omega)).mono ?_;rintro e2 w2 ⟨v2,rfl,hb2,ho2⟩;have HR:=H_ (show Below w w w2/\γ w w2 3 w2 v2 (behV xs ys) from ⟨HB1.o.trans (hb2.mono (by omega)),by rw[HE.o];exact ho2.lower (by omega) (le_ _)⟩);clear hb2 ho2;go_wp2;go_ret;exact ε.mk _ rfl HR.o
 ·have HE:=H_ (show behV xs ys=ys by unfold behV;rw[x_ (by rw[zem] at heq;exact av_ heq)])
  have H0:Q_ (Own 1 w1 (w1+1) 3 (w1.alloc (.cells #[] 3)) (.slice (q_ w1 0) 0 0) 0 (ints [])):=H_ (ς 1 3 w1 (ints []) 0 (by omega) rfl);have⟨w2,hw2⟩:=xa_ w1 #[] 3;have hb2:Below w1 w1 w2:=by rw[hw2];exact η _ _
  have hs2:w2=w1.heap.size+1:=by rw[hw2];simp
  have HY2:=H_ (HY1.o.below hb2 (by omega));have HB2:=HB1.tr hb2 (by omega);have HW2:=H_ hw2;rw[<-hw2]at H0;clear heq hw2 hb2;go_wp2_with (at_builtin;go_loud (rw[<-HW2.o];refine Τ rfl _ _ 22 rfl 3 (0:Int) 1 8 underlying22 τ rfl (by decide) (by decide) rfl H0.o rfl HY2.o (Β _) ?c1 ?c2 ?_))
  case c1=>omega
  case c2=>omega
  intro v3 w3 ho3 _ hout3 _
  have HR:=H_ (show Below w w w3/\γ w w3 3 w3 v3 (behV xs ys) from ⟨δ HB2.o hout3 (by omega) (by omega),by
   rw[HE.o];exact(γ.len (xs:=ys) (by simpa [ints] using ho3) (by simp)).lower (by omega) (le_ _)⟩)
  clear ho3 hout3;go_wp2;go_ret;exact ε.mk _ rfl HR.o
def zeu(t:KT):Prop:=∀ (lo hi:Nat) (v:Value) (w:World) (α:Nat) (c:Int),SlI lo hi w v t.post->t.ok 0=true->t.size<=1700->α<4->16<=c->c<=18->hi<=w ->
 Calls prog 160 #[v,.int .i64 α,.int .i64 c] w (ε λv w'=>Ε w w' v (partsV t α c)/\Below w w w')
theorem zga {t:KT}(ht:t.ok 0=true)(hs:t.size<=1700){α:Nat}{c:Int}(hc:16<=c):(∀ x∈partsV t α c,x.length<=2900000)/\(partsV t α c).length<=1700:=
 ⟨λx hx=>J_ (partsV_short ht hc hx) (J_ (bk_ hs (show t.size+1<=1701 by omega)) (by decide)),J_ (partsV_len ht hc) hs⟩
theorem zk5 {ts:List (List Int)}(hk:k<ts.length):addsL l (ts.take (k+1))=addL ts[k] (addsL l (ts.take k)):=by rw[F_ hk,addsL_snoc]
theorem zjf {ts:List (List Int)}(k:Nat)(h1:l.length<=5000)(h2:ts.length<=5000):(addsL l (ts.take k)).length<=100000:=by
 have h:=addsL_len (ts.take k) l;have h3:(ts.take k).length<=ts.length:=by rw[am_];omega
 omega
theorem zlc {ts:List (List Int)}(k:Nat)(h1:∀ x∈l,x.length<=n)(h2:∀ x∈ts,x.length<=n):∀ x∈addsL l (ts.take k),x.length<=n:=by
 intro x hx;rcases addsL_mem.1 hx with hx|hx
 ·exact h1 x hx
 ·exact h2 x (a7_ hx)
theorem zfb(lo:Nat)(w:World)(hl:lo<=w):Ε lo (w.alloc (.cells #[] 22)) (.slice (q_ w 0) 0 0) []:=⟨_,0,[],rfl,by rw[ν];exact zfd lo w hl⟩
theorem zxk(n:Int):zeu (.leaf n):=by
 intro lo hi v w α c hx hok hs hα hc1 hc2 hh;simp only[KT.ok,j_,t_]at hok;obtain⟨hn0,hn18⟩:=hok;obtain⟨a,cap,rfl,_,_⟩:=ο hx;obtain⟨b,off,rfl,hb1,hb2,hb3,hcell⟩:=hx.get 0 (by simp[KT.post]);have hc1:w.cell? (p_ b off)=some (.int .i64 n):=hcell;have hlen:(KT.leaf n).post.length=1:=rfl;rw[hlen];clear hx hlen hcell;have HZ:=H_ (zfb w w (le_ _));have HB0:=H_ (η w (.cells #[] 22));by_cases he:n=c
 ·have hd:(n==c)=true:=by simp[he]
  have HE:=H_ (show partsV (.leaf n) α c=[[15]] by unfold partsV;rw[x_ he]);have⟨w1,hw1⟩:=ex_ ((w.alloc (.cells #[] 22)).alloc (.cells #[(15:Int)] 3));have hs1:w1=w.heap.size+2:=by rw[hw1];simp
  have hb1:Below w w w1:=by rw[hw1];exact(η _ _).trans ((η _ _).mono (by simp))
  have HL1:Q_ (LLs w w1 w1 (.slice (q_ w 0) 0 0) [] []):=H_ (by
   have h:=(zfd w w (le_ _)).below (η (w.alloc (.cells #[] 22)) (.cells #[(15:Int)] 3)) (by rw[ν];exact le_ _);rw[<-hw1]at h;exact h.lower (le_ _) (by omega))
  have HO1:Q_ (γ w w1 3 w1 (.slice (q_ (w+1) 0) 1 1) [15]):=H_ (by
   have h:=ς 1 3 (w.alloc (.cells #[] 22)) (ints [15]) 1 (by omega) rfl;rw[ν]at h;rw[hs1,hw1];exact(γ.len h rfl).lower (by omega) (by omega))
  have HB1:=H_ hb1;have HW1:=H_ hw1;have HS1:=H_ hs1;clear hw1 hb1 he hs1
  go_enter func160,ntmps160
  go_wp2_with (at_builtin;go_loud (refine zbt w1 rfl _ _ 119 rfl 22 () 1 24 underlying119 zag rfl (by decide) (by decide) rfl HL1.o.1 1 [.slice (q_ (w+1) 0) 1 1] (by rw[HS1.o];rfl) rfl (by intro u hu;simp only[k_] at hu;subst hu;rfl) (by rw[HW1.o]) ?c1 ?c2 ?_))
  case c1=>simp
  case c2=>rw[HS1.o];omega
  intro v2 w2 ho2 hg2 hl2 _;rw[<-HW1.o]at hg2;have HJ:=H_ (zgo HL1.o HO1.o ho2 hg2);have HNZ:=H_ hl2;obtain⟨a2,c2,rfl⟩:=θ ho2;have hsz2:=HJ.o.2.size;have hs1':=HS1.o
  obtain⟨g2,rfl⟩:∃ g,a2=some ⟨g,0,none⟩:=by
   rcases HJ.o.1.1.1.2 with⟨e,h0⟩|⟨g,cap',cur,e,_⟩
   ·exact absurd h0 (by simp)
   ·injection e with e;exact⟨g,e⟩
  have HR:=H_ (show Ε w w2 (.slice (q_ g2 0) 1 c2) (partsV (.leaf n) α c)/\Below w w w2 from ⟨⟨g2,c2,_,rfl,by rw[HE.o];exact HJ.o.1⟩,δ HB1.o HJ.o.2 (le_ _) (by omega)⟩);clear ho2 hg2 hl2;go_wp2;go_ret;exact ε.mk _ rfl HR.o
 ·have hd:(n==c)=false:=by simp[he]
  have HE:=H_ (show partsV (.leaf n) α c=[] by unfold partsV;rw[m_ he]);clear he
  go_enter func160,ntmps160
  go_wp2;go_ret;exact ε.mk _ rfl ⟨by rw[HE.o];exact HZ.o,HB0.o⟩
theorem z1c {x y:KT}(ihx:zeu x)(ihy:zeu y):zeu (.bin true x y):=by
 intro lo hi v w α c hx hok hs hα hc1 hc2 hh;simp only[KT.ok,j_]at hok;obtain⟨hokx,hoky⟩:=hok;simp only[KT.size]at hs;have hlen:(KT.bin true x y).post.length=x.size+y.size+1:=by rw[za2];rfl
 have HALF:=H_ (show ∀ w1,Below w w w1->Calls prog 156 #[v] w1 (zij λa b w2=>Below w1.heap.size w1 w2/\SlI lo hi w2 a x.post/\SlI lo hi w2 b y.post) from λw1 hb1=>
  (zhi lo hi v 0 true x y w1 (hx.below hb1 hh) (by omega) hoky).mono (by rintro e w2 ⟨va,vb,rfl,⟨m,rfl⟩,ha,hb⟩;exact⟨va,vb,rfl,ai_ (B_ _ _) m,ha,hb⟩))
 obtain⟨a,cap,rfl,_,hcm⟩:=ο hx;obtain⟨b,off,rfl⟩:=hx.notNil (by omega);obtain⟨b',off',e,_,_,hbl,hc⟩:=hx.get (x.size+y.size) (by omega);injection e with e;injection e with e1 e2;subst e1 e2
 have hc0:w.cell? (p_ b (off+(x.size+y.size)))=some (.int .i64 20):=by
  rw[hc];simp[KT.post,<-za2,KT.op]
 rw[hlen]at HALF ⊢;have IHX:=H_ ihx;have IHY:=H_ ihy;obtain⟨bgx,lnx⟩:=zga hokx (by omega) (α:=α) hc1;obtain⟨bgy,lny⟩:=zga hoky (by omega) (α:=α) hc1;have HBX:=H_ bgx;have HBY:=H_ bgy;have HPV:=H_ (partsV_or x y α c);have⟨pa,hpa⟩:=ex_ (partsV x α c);have⟨pb,hpb⟩:=ex_ (partsV y α c);have HPA:=H_ hpa;have HPB:=H_ hpb;rw[<-hpa]at lnx HBX HPV;rw[<-hpb]at lny HBY HPV;have⟨w0,hw0⟩:=xa_ w #[] 22;have hb0:Below w w w0:=by rw[hw0];exact η _ _
 have hs0:w0=w.heap.size+1:=by rw[hw0];simp
 have HZ:=H_ (show Ε w w0 (.slice (q_ w 0) 0 0) [] by rw[hw0];exact zfb w w (le_ _));have HB0:=H_ hb0;have hcd:(w.alloc (.cells #[] 22)).cell? (p_ b (off+(x.size+y.size)))=some (.int .i64 20):=by rw[<-hw0];exact(hb0.cell (p:=p_ b (off+(x.size+y.size))) hbl).trans hc0
 have HW0:=H_ hw0;clear ihx ihy hx hcm hc bgx bgy hpa hpb hw0 hb0
 go_enter func160,ntmps160
 go_wp2_with (rw[<-HW0.o])
 refine(HALF.o w0 HB0.o).mono ?_;rintro e w1 ⟨va,vb,rfl,h_,ha,hb⟩;have hs1:=h_.size;have HB1:=HB0.tr h_ (by omega);have HZ1:=H_ (HZ.o.go h_);have HVA:=H_ ha;have HVB:=H_ hb;obtain⟨aa,ac,rfl,_,_⟩:=ο ha;obtain⟨ba,bc,rfl,_,_⟩:=ο hb;clear h_ ha hb HALF hc0 hcd HW0;go_wp2_with fail
 refine(IHX.o lo hi _ w1 α c HVA.o hokx (by omega) hα hc1 hc2 (by omega)).mono ?_;rintro e w2 ⟨v2,rfl,h2,hb2⟩;rw[<-HPA.o]at h2;have hs2:=hb2.size;have HB2:=HB1.tr hb2 (by omega);have HZ2:=H_ (HZ1.o.go hb2);have HVB2:=H_ (HVB.o.below hb2 (by omega));have H2:=H_ (h2.low (show w<=w1.heap.size by omega));obtain⟨g2,c2,rfl⟩:=h2.shape;clear h2 hb2 HVA HZ1;go_wp2_with fail
 refine(IHY.o lo hi _ w2 α c HVB2.o hoky (by omega) hα hc1 hc2 (by omega)).mono ?_;rintro e w3 ⟨v3,rfl,h3,hb3⟩;rw[<-HPB.o]at h3;have hs3:=hb3.size;have HB3:=HB2.tr hb3 (by omega);have H23:=H_ (H2.o.go hb3);have H3:=H_ (h3.low (show w<=w2.heap.size by omega));obtain⟨g3,c3,rfl⟩:=h3.shape;clear h3 hb3;go_wp2;go_loopw [9,13] (λo i wr=>∃ k:Nat,k<=pb.length/\i=.int .i64 k/\Q_ (Ε w wr o (addsL pa (pb.take k)))/\Q_ (Below w w wr/\Below w3 w3 wr)) (λ_ i _=>pb.length-(intOf i).toNat)
 case atStart=>exact⟨0,by omega,rfl,H23,H_ ⟨HB3.o,B_ _ _⟩⟩
 case round=>
  rename World=>wr
  obtain⟨k,hk,rfl,HQ,HB⟩:=hrel;obtain⟨g4,n4,c4,rfl⟩:=HQ.o.shapeN;have hszr:=HB.o.1.size;by_cases hlt:k<pb.length
  ·obtain⟨u,hg,hcu,hu⟩:=(H3.o.go HB.o.2).at k hlt
   have HU:=H_ hu;obtain⟨ua,uc,rfl⟩:=θ hu;have HNX:=H_ (zk5 (l:=pa) hlt);clear hu;go_wp2_with fail
   refine(zkn _ _ _ _ pb[k] wr HQ.o HU.o hszr (zjf k (by omega) (by omega)) (λz hz=>by have:=zlc k HBX.o HBY.o z hz;omega) (by have:=HBY.o _ (u_ hlt);omega)).mono ?_;rintro e w5 ⟨v5,rfl,h5,hb5⟩;rw[<-HNX.o]at h5;have H5:=H_ h5;have HB5:=H_ (show Below w w w5/\Below w3 w3 w5 from ⟨HB.o.1.trans (hb5.mono hszr),HB.o.2.trans (hb5.mono HB.o.2.size)⟩);clear h5 hb5;go_wp2;go_roundw
   case rel=>exact⟨k+1,by omega,by go_num,H5,HB5⟩
   case measure=>simp[intOf];omega
  ·obtain rfl:k=pb.length:=by omega
   have HR:=H_ (show Ε w wr (.slice (q_ g4 0) n4 c4) (partsV (.bin true x y) α c) from by
    have h:=HQ.o;rw[Y_]at h;rw[HPV.o];exact h)
   go_wp2;go_ret;exact ε.mk _ rfl ⟨HR.o,HB.o.1⟩
theorem zxm {x y:KT}(ihx:zeu x)(ihy:zeu y):zeu (.bin false x y):=by
 intro lo hi v w α c hx hok hs hα hc1 hc2 hh;simp only[KT.ok,j_]at hok;obtain⟨hokx,hoky⟩:=hok;simp only[KT.size]at hs;have hlen:(KT.bin false x y).post.length=x.size+y.size+1:=by rw[za2];rfl
 have HALF:=H_ (show ∀ w1,Below w w w1->Calls prog 156 #[v] w1 (zij λa b w2=>Below w1.heap.size w1 w2/\SlI lo hi w2 a x.post/\SlI lo hi w2 b y.post) from λw1 hb1=>
  (zhi lo hi v 0 false x y w1 (hx.below hb1 hh) (by omega) hoky).mono (by rintro e w2 ⟨va,vb,rfl,⟨m,rfl⟩,ha,hb⟩;exact⟨va,vb,rfl,ai_ (B_ _ _) m,ha,hb⟩))
 obtain⟨a,cap,rfl,_,hcm⟩:=ο hx;obtain⟨b,off,rfl⟩:=hx.notNil (by omega);obtain⟨b',off',e,_,_,hbl,hc⟩:=hx.get (x.size+y.size) (by omega);injection e with e;injection e with e1 e2;subst e1 e2
 have hc0:w.cell? (p_ b (off+(x.size+y.size)))=some (.int .i64 19):=by
  rw[hc];simp[KT.post,<-za2,KT.op]
 rw[hlen]at HALF ⊢;have IHX:=H_ ihx;have IHY:=H_ ihy;obtain⟨bgx,lnx⟩:=zga hokx (by omega) (α:=α) hc1;obtain⟨bgy,lny⟩:=zga hoky (by omega) (α:=α) hc1;have HBX:=H_ bgx;have HBY:=H_ bgy;have HPV:=H_ (partsV_seq x y α c)
 have HMB:Q_ (∀ z∈(partsV x α c).map λq=>behV q y.post,z.length<=2910000):=H_ (by
  intro z hz;obtain⟨q,hq,rfl⟩:=aa_.1 hz;have:=bgx q hq;have hyl:=y.post_length;unfold behV
  split
  ·omega
  ·simp;omega)
 have HOL:Q_ ((ordL ((partsV x α c).map λq=>behV q y.post)).length<=5000):=H_ (by
  have h:=addsL_len ((partsV x α c).map λq=>behV q y.post) [];rw[X_]at h
  show (addsL [] _).length<=5000
  simp only[an_]at h;omega)
 have HOB:Q_ (∀ z∈ordL ((partsV x α c).map λq=>behV q y.post),z.length<=2910000):=H_ (λz hz=>HMB.o z (ordL_mem.1 hz));have⟨pa,hpa⟩:=ex_ (partsV x α c);have⟨pb,hpb⟩:=ex_ (partsV y α c);have HPA:=H_ hpa;have HPB:=H_ hpb;rw[<-hpa]at lnx HBX HPV HMB HOL HOB;rw[<-hpb]at lny HBY HPV;have⟨w0,hw0⟩:=xa_ w #[] 22;have hb0:Below w w w0:=by rw[hw0];exact η _ _
 have hs0:w0=w.heap.size+1:=by rw[hw0];simp
 have HZ:=H_ (show Ε w w0 (.slice (q_ w 0) 0 0) [] by rw[hw0];exact zfb w w (le_ _));have HB0:=H_ hb0;have hcd:(w.alloc (.cells #[] 22)).cell? (p_ b (off+(x.size+y.size)))=some (.int .i64 19):=by rw[<-hw0];exact(hb0.cell (p:=p_ b (off+(x.size+y.size))) hbl).trans hc0
 have HW0:=H_ hw0;clear ihx ihy hx hcm hc bgx bgy hpa hpb hw0 hb0
 go_enter func160,ntmps160
 go_wp2_with (rw[<-HW0.o])
 refine(HALF.o w0 HB0.o).mono ?_;rintro e w1 ⟨va,vb,rfl,h_,ha,hb⟩;have hs1:=h_.size;have HB1:=HB0.tr h_ (by omega);have HZ1:=H_ (HZ.o.go h_);have HVA:=H_ ha;have HVB:=H_ hb;obtain⟨aa,ac,rfl,_,_⟩:=ο ha;obtain⟨ba,bc,rfl,_,_⟩:=ο hb;clear h_ ha hb HALF hc0 hcd HW0;go_wp2_with fail
 refine(IHX.o lo hi _ w1 α c HVA.o hokx (by omega) hα hc1 hc2 (by omega)).mono ?_;rintro e w2 ⟨v2,rfl,h2,hb2⟩;rw[<-HPA.o]at h2;have hs2:=hb2.size;have HB2:=HB1.tr hb2 (by omega);have HZ2:=H_ (HZ1.o.go hb2);have HVB2:=H_ (HVB.o.below hb2 (by omega));have HVA2:=H_ (HVA.o.below hb2 (by omega));have H2:=H_ (h2.low (show w<=w1.heap.size by omega));obtain⟨g2,c2,rfl⟩:=h2.shape;clear h2 hb2 HVA HZ1;go_wp2;go_loopw [9,17] (λo i wr=>∃ k:Nat,k<=pa.length/\i=.int .i64 k/\Q_ (Ε w wr o (addsL [] ((pa.map λq=>behV q y.post).take k)))/\Q_ (Below w w wr/\Below w2 w2 wr)) (λ_ i _=>pa.length-(intOf i).toNat)
 case atStart=>exact⟨0,by omega,rfl,HZ2,H_ ⟨HB2.o,B_ _ _⟩⟩
 case round=>
  rename World=>wr
  obtain⟨k,hk,rfl,HQ,HB⟩:=hrel;obtain⟨g4,n4,c4,rfl⟩:=HQ.o.shapeN;have hszr:=HB.o.1.size;have hszr2:=HB.o.2.size;by_cases hlt:k<pa.length
  ·obtain⟨u,hg,hcu,hu⟩:=(H2.o.go HB.o.2).at k hlt
   have HU:=H_ hu;obtain⟨ua,uc,rfl⟩:=θ hu;have hltm:k<(pa.map λq=>behV q y.post).length:=by rw[X_];exact hlt
   have HNX:=H_ (zk5 (l:=[]) hltm);rw[bq_]at HNX;have hbk:=HBX.o _ (u_ hlt);have HPY:=H_ y.post_length;have hylen:y.post.length<=1700:=by rw[HPY.o];omega
   clear hu;go_wp2_with fail
   refine(zn0 _ _ _ _ _ _ pa[k] y.post wr HU.o.sl (HVB2.o.below HB.o.2 (by omega)) (le_ _) (by omega) (by omega)).mono ?_;rintro e w4 ⟨v4,rfl,hb4,ho4⟩;have hs4:=hb4.size;have HO4:=H_ (ho4.lower hszr (le_ _));have HQ4:=H_ (HQ.o.go hb4);have HB4:=H_ (show Below w w w4/\Below w2 w2 w4 from ⟨HB.o.1.trans (hb4.mono hszr),HB.o.2.trans (hb4.mono hszr2)⟩);obtain⟨za,zc,rfl⟩:=θ ho4;clear hb4 ho4;go_wp2_with fail
   refine(zkn _ _ _ _ (behV pa[k] y.post) w4 HQ4.o HO4.o (by omega) (zjf k (by simp) (by rw[X_];omega)) (λz hz=>by have:=zlc k (n:=2910000) (l:=[]) (by simp) HMB.o z hz;omega) (by have:=HMB.o _ (aa_.2 ⟨_,u_ hlt,rfl⟩);omega)).mono ?_;rintro e w5 ⟨v5,rfl,h5,hb5⟩;rw[<-HNX.o]at h5;have H5:=H_ h5;have HB5:=H_ (show Below w w w5/\Below w2 w2 w5 from ⟨HB4.o.1.trans (hb5.mono (by omega)),HB4.o.2.trans (hb5.mono (by omega))⟩);clear h5 hb5;go_wp2;go_roundw
   case rel=>exact⟨k+1,by omega,by go_num,H5,HB5⟩
   case measure=>simp[intOf];omega
  ·obtain rfl:k=pa.length:=by omega
   have HQ':=H_ (show Ε w wr (.slice (q_ g4 0) n4 c4) (ordL (pa.map λq=>behV q y.post)) from by
    (have h:=HQ.o;have e:(pa.map λq=>behV q y.post).take pa.length=pa.map λq=>behV q y.post:=ay_ (by simp));rw[e]at h;exact h)
   clear HQ;go_wp2_with fail
   refine(IHY.o lo hi _ wr α c (HVB2.o.below HB.o.2 (by omega)) hoky (by omega) hα hc1 hc2 (by omega)).mono ?_;rintro e w3 ⟨v3,rfl,h3,hb3⟩;rw[<-HPB.o]at h3;have hs3:=hb3.size;have HB3:=H_ (show Below w w w3/\Below w2 w2 w3 from ⟨HB.o.1.trans (hb3.mono hszr),HB.o.2.trans (hb3.mono hszr2)⟩);have H23:=H_ (HQ'.o.go hb3);have H3:=H_ (h3.low hszr);obtain⟨g3,c3,rfl⟩:=h3.shape;clear h3 hb3 HQ';go_wp2;go_loopw [9,19] (λo i wx=>∃ k:Nat,k<=pb.length/\i=.int .i64 k/\Q_ (Ε w wx o (addsL (ordL (pa.map λq=>behV q y.post)) ((if (endsK x).testBit α then pb else []).take k)))/\Q_ (Below w w wx/\Below w3 w3 wx)) (λ_ i _=>pb.length-(intOf i).toNat)
   case atStart=>exact⟨0,by omega,rfl,H_ (by obtain⟨g,cc,e⟩:=H23.o.shape;exact H23.o),H_ ⟨HB3.o.1,B_ _ _⟩⟩
   case round=>
    rename World=>wx
    obtain⟨k,hk,rfl,HQ,HBx⟩:=hrel;obtain⟨g5,n5,c5,rfl⟩:=HQ.o.shapeN;have hszx:=HBx.o.1.size;have hszx2:=HBx.o.2.size;by_cases hlt:k<pb.length
    ·(obtain⟨u,hg,hcu,hu⟩:=(H3.o.go HBx.o.2).at k hlt);(have HU:=H_ hu;obtain⟨ua,uc,rfl⟩:=θ hu;have HVX:=H_ (HVA2.o.below (HB3.o.2.trans (HBx.o.2.mono (by omega))) (by omega));clear hu;go_wp2_with fail);refine(zl7 x lo hi _ wx HVX.o hokx (by omega) (by omega)).mono ?_;rintro e w6 ⟨rfl,hb6⟩;have hs6:=hb6.size;have HB6:=H_ (show Below w w w6/\Below w3 w3 w6 from ⟨HBx.o.1.trans (hb6.mono hszx),HBx.o.2.trans (hb6.mono hszx2)⟩);have HQ6:=H_ (HQ.o.go hb6);have HU6:=H_ ((HU.o.below hb6 (le_ _)).lower (le_ _) hs6);have hcu6:w6.cell? (p_ g3 k)=some (.slice ua pb[k].length uc):=(hb6.cell (p:=p_ g3 k) hg).trans hcu;have hek:=zeh hokx;clear hb6 hcu HQ;go_wp2_with fail
     refine(zgu (endsK x) α (by omega) (by omega) w6).mono ?_;rintro e _ ⟨rfl,rfl⟩;cases hbit:(endsK x).testBit α
     ·(have hbi:zaw (endsK x) α=0:=by simp[zaw,hbit]);rw[hbi]
      have HR:=H_ (show Ε w w6 (.slice (q_ g5 0) n5 c5) (partsV (.bin false x y) α c) from by
       (have h:=HQ6.o;rw[HPV.o];rw[hbit]at h ⊢);simpa [addsL_nil] using h)
      clear hbit hbi;go_wp2;go_ret;exact ε.mk _ rfl ⟨HR.o,HB6.o.1⟩
     ·(have hbi:zaw (endsK x) α=1:=by simp[zaw,hbit]);rw[hbi];have HIF:=H_ (show (if (endsK x).testBit α then pb else [])=pb by rw[hbit,x_ rfl]);have HNX:=H_ (zk5 (l:=ordL (pa.map λq=>behV q y.post)) hlt)
      have HQ7:=H_ (show Ε w w6 (.slice (q_ g5 0) n5 c5) (addsL (ordL (pa.map λq=>behV q y.post)) (pb.take k)) from by
       have h:=HQ6.o;rw[HIF.o]at h;exact h)
      clear hbit hbi HQ6;go_wp2_with fail
      refine(zkn _ _ _ _ pb[k] w6 HQ7.o HU6.o (by omega) (zjf k HOL.o (by omega)) (λz hz=>by have:=zlc k (n:=2910000) HOB.o (λz hz=>by have:=HBY.o z hz;omega) z hz;omega) (by have:=HBY.o _ (u_ hlt);omega)).mono ?_;rintro e w7 ⟨v7,rfl,h7,hb7⟩;rw[<-HNX.o]at h7;have H7:=H_ (show Ε w w7 v7 (addsL (ordL (pa.map λq=>behV q y.post)) ((if (endsK x).testBit α then pb else []).take (k+1))) from by rw[HIF.o];exact h7);have HB7:=H_ (show Below w w w7/\Below w3 w3 w7 from ⟨HB6.o.1.trans (hb7.mono (by omega)),HB6.o.2.trans (hb7.mono (by omega))⟩);clear h7 hb7;go_wp2;go_roundw
      (case rel=>exact⟨k+1,by omega,by go_num,H7,HB7⟩);case measure=>simp[intOf];omega
    ·(obtain rfl:k=pb.length:=by omega)
     have HR:=H_ (show Ε w wx (.slice (q_ g5 0) n5 c5) (partsV (.bin false x y) α c) from by
      (have h:=HQ.o;have e:(if (endsK x).testBit α then pb else []).take pb.length=if (endsK x).testBit α then pb else []:=ay_ (by split<;>simp));rw[e]at h;rw[HPV.o];exact h)
     go_wp2;go_ret;exact ε.mk _ rfl ⟨HR.o,HBx.o.1⟩
theorem zto {x:KT}(ihx:zeu x):zeu (.star x):=by
 intro lo hi v w α c hx hok hs hα hc1 hc2 hh;have hokx:x.ok 0=true:=hok;simp only[KT.size]at hs;have hlen:(KT.star x).post.length=x.size+1:=by rw[za2];rfl
 obtain⟨a,cap,rfl,hcc,hcm⟩:=ο hx;obtain⟨b,off,rfl⟩:=hx.notNil (by omega);obtain⟨b',off',e,_,_,hbl,hc⟩:=hx.get x.size (by omega);injection e with e;injection e with e1 e2;subst e1 e2
 have hc0:w.cell? (p_ b (off+x.size))=some (.int .i64 21):=by
  rw[hc];simp[KT.post,<-za2]
 have HSX:Q_ (SlI lo hi w (.slice (q_ b off) x.size cap) x.post):=H_ (by
  have h2:=hx.sub 0 x.size (aw_ _) (by omega)
  simpa [KT.post,<-za2] using h2)
 have HX:=H_ hx;have hpl:(KT.star x).post.length<=1700:=by omega
 rw[hlen]at hcc HX ⊢;have e4:x.size<=cap:=by omega
 have IHX:=H_ ihx;obtain⟨bgx,lnx⟩:=zga hokx (by omega) (α:=α) hc1;have HBX:=H_ bgx;have HPV:=H_ (partsV_star x α c)
 have HMB:Q_ (∀ z∈(partsV x α c).map λq=>behV q (KT.star x).post,z.length<=2910000):=H_ (by
  intro z hz;obtain⟨q,hq,rfl⟩:=aa_.1 hz;have:=bgx q hq;unfold behV
  split
  ·omega
  ·simp only[n_,cs_];omega)
 have⟨pa,hpa⟩:=ex_ (partsV x α c);have HPA:=H_ hpa;rw[<-hpa]at lnx HBX HPV HMB;have⟨w0,hw0⟩:=xa_ w #[] 22;have hb0:Below w w w0:=by rw[hw0];exact η _ _
 have hs0:w0=w.heap.size+1:=by rw[hw0];simp
 have HZ:=H_ (show Ε w w0 (.slice (q_ w 0) 0 0) [] by rw[hw0];exact zfb w w (le_ _));have HB0:=H_ hb0;have HSX0:=H_ (HSX.o.below hb0 hh);have hcd:(w.alloc (.cells #[] 22)).cell? (p_ b (off+x.size))=some (.int .i64 21):=by rw[<-hw0];exact(hb0.cell (p:=p_ b (off+x.size)) hbl).trans hc0
 have HW0:=H_ hw0;have HPL:=H_ hlen;unfold maxLen at hcm;clear ihx hx hc bgx hpa hw0 hb0 hlen
 go_enter func160,ntmps160
 go_wp2_with (rw[<-HW0.o])
 refine(IHX.o lo hi _ w0 α c HSX0.o hokx (by omega) hα hc1 hc2 (by omega)).mono ?_;rintro e w2 ⟨v2,rfl,h2,hb2⟩;rw[<-HPA.o]at h2;have hs2:=hb2.size;have HB2:=HB0.tr hb2 (by omega);have HZ2:=H_ (HZ.o.go hb2);have H2:=H_ (h2.low (show w<=w0.heap.size by omega));obtain⟨g2,c2,rfl⟩:=h2.shape;clear h2 hb2 HZ hc0 hcd HW0;go_wp2;go_loopw [9,21] (λo i wr=>∃ k:Nat,k<=pa.length/\i=.int .i64 k/\Q_ (Ε w wr o (addsL [] ((pa.map λq=>behV q (KT.star x).post).take k)))/\Q_ (Below w w wr/\Below w2 w2 wr)) (λ_ i _=>pa.length-(intOf i).toNat)
 case atStart=>exact⟨0,by omega,rfl,HZ2,H_ ⟨HB2.o,B_ _ _⟩⟩
 case round=>
  rename World=>wr
  obtain⟨k,hk,rfl,HQ,HB⟩:=hrel;obtain⟨g4,n4,c4,rfl⟩:=HQ.o.shapeN;have hszr:=HB.o.1.size;have hszr2:=HB.o.2.size;by_cases hlt:k<pa.length
  ·obtain⟨u,hg,hcu,hu⟩:=(H2.o.go HB.o.2).at k hlt
   have HU:=H_ hu;obtain⟨ua,uc,rfl⟩:=θ hu;have hltm:k<(pa.map λq=>behV q (KT.star x).post).length:=by rw[X_];exact hlt
   have HNX:=H_ (zk5 (l:=[]) hltm);rw[bq_]at HNX;have hbk:=HBX.o _ (u_ hlt);clear hu;go_wp2_with fail
   refine(zn0 _ _ _ _ _ _ pa[k] (KT.star x).post wr HU.o.sl (HX.o.below HB.o.1 hh) (le_ _) (by omega) (by omega)).mono ?_;rintro e w4 ⟨v4,rfl,hb4,ho4⟩;have hs4:=hb4.size;have HO4:=H_ (ho4.lower hszr (le_ _));have HQ4:=H_ (HQ.o.go hb4);have HB4:=H_ (show Below w w w4/\Below w2 w2 w4 from ⟨HB.o.1.trans (hb4.mono hszr),HB.o.2.trans (hb4.mono hszr2)⟩);obtain⟨za,zc,rfl⟩:=θ ho4;clear hb4 ho4;go_wp2_with fail
   refine(zkn _ _ _ _ (behV pa[k] (KT.star x).post) w4 HQ4.o HO4.o (by omega) (zjf k (by simp) (by rw[X_];omega)) (λz hz=>by have:=zlc k (n:=2910000) (l:=[]) (by simp) HMB.o z hz;omega) (by have:=HMB.o _ (aa_.2 ⟨_,u_ hlt,rfl⟩);omega)).mono ?_;rintro e w5 ⟨v5,rfl,h5,hb5⟩;rw[<-HNX.o]at h5;have H5:=H_ h5;have HB5:=H_ (show Below w w w5/\Below w2 w2 w5 from ⟨HB4.o.1.trans (hb5.mono (by omega)),HB4.o.2.trans (hb5.mono (by omega))⟩);clear h5 hb5;go_wp2;go_roundw
   case rel=>exact⟨k+1,by omega,by go_num,H5,HB5⟩
   case measure=>simp[intOf];omega
  ·obtain rfl:k=pa.length:=by omega
   have HR:=H_ (show Ε w wr (.slice (q_ g4 0) n4 c4) (partsV (.star x) α c) from by
    (have h:=HQ.o;have e:(pa.map λq=>behV q (KT.star x).post).take pa.length=pa.map λq=>behV q (KT.star x).post:=ay_ (by simp));rw[e]at h;rw[HPV.o];exact h)
   go_wp2;go_ret;exact ε.mk _ rfl ⟨HR.o,HB.o.1⟩
theorem zgd:∀ t:KT,zeu t
 | .leaf n=>zxk n
 | .bin true a b=>z1c (zgd a) (zgd b)
 | .bin false a b=>zxm (zgd a) (zgd b)
 | .star a=>zto (zgd a)
theorem zt8(hk:k<l.length)(h:x ∉ l.take k)(he:l[k]≠x):x ∉ l.take (k+1):=by
 rw[F_ hk,E_,k_];rintro(h1|h1)
 ·exact h h1
 ·exact he h1.symm
theorem zrj(lo hi lo' hi':Nat)(v vx:Value)(xss:List (List Int))(x:List Int)(w:World)(hl:za5 lo hi w v xss)(hx:SlI lo' hi' w vx x)(hh:hi<=w)(hh':hi'<=w)(hm:xss.length<=1048576)(hms:∀ y∈xss,y.length<=16777216)(hmx:x.length<=16777216):
  c_ 161 #[v,vx] w (decide (x∈xss)):=by
 have HL:=H_ hl;have HX:=H_ hx;have HMS:=H_ hms;obtain⟨a,cap,rfl,_,_⟩:=hl.shape;obtain⟨xa,xc,rfl,_,_⟩:=ο hx;clear hl hx hms
 go_enter func161,ntmps161
 go_wp2;go_loopw [5] (λi wr=>∃ k:Nat,k<=xss.length/\i=.int .i64 k/\Q_ (Below w w wr)/\Q_ (x ∉ xss.take k)) (λi _=>xss.length-(intOf i).toNat)
 case atStart=>exact⟨0,by omega,rfl,H_ (B_ _ _),H_ (by simp)⟩
 case round=>
  rename World=>wr
  obtain⟨k,hk,rfl,HB,HN⟩:=hrel;have hzr:=HB.o.size;by_cases hlt:k<xss.length
  ·obtain⟨b5,off5,u5,rfl,_,_,_,hc5,hu5⟩:=(HL.o.below HB.o hh).get k hlt
   obtain⟨ua,uc,rfl,_,_⟩:=ο hu5;have HU:=H_ hu5;have hly:=HMS.o _ (u_ hlt);clear hu5;go_wp2_with fail
   refine(zla _ _ _ _ _ _ xss[k] x wr HU.o (HX.o.below HB.o hh') hly hmx).mono ?_;rintro e1 w1 ⟨rfl,hb1⟩;have HB1:=HB.tr hb1 hzr;clear hb1;cases heq:eqL xss[k] x
   ·(have HNN:=H_ (zt8 hlt HN.o (λh=>by rw[h,zhc] at heq;cases heq)));clear heq;go_wp2;go_roundw
    (case rel=>exact⟨k+1,by omega,by go_num,HB1,HNN⟩);case measure=>simp[intOf];omega
   ·have HY:=H_ (show true=decide (x∈xss) by
     rw[zem]at heq;rw[<-of_decide_eq_true heq];simp)
    clear heq;go_wp2;go_ret;exact⟨φ HY.o,HB1.o⟩
  ·obtain rfl:k=xss.length:=by omega
   have HY:=H_ (show false=decide (x∈xss) by
    have h:=HN.o;rw[Y_]at h;simp[h])
   go_wp2;go_ret;exact⟨φ HY.o,HB.o⟩
theorem Ε.app {ys:List Int}(h:LLs lo w w (.slice (q_ g 0) ss cap) ss xss)(hs:γ lo w 3 w s ys)
  (ho:Own 1 lo w' 22 w' v' (ss.length+1) (ss++[s])) (hg:(w.alloc (.cells #[s] 22)).grownBy w' (Value.slice (q_ g 0) ss cap).ownBlock):Ε lo w' v' (xss++[ys])/\β lo w w w':=by
 have hJ:=zgo h hs ho hg;obtain⟨g2,c2,rfl⟩:=zh3 ho (by simp);exact⟨⟨g2,c2,ss++[s],by rw[n_];rfl,hJ.1⟩,hJ.2⟩
theorem LLs.beside {pv:Value} {sp:List Value} {ps o:List (List Int)}(hO:LLs lo' w w v ss o)(hp:LLs lo hi w pv sp ps)(hh:hi<=w)(hd:pv.ownBlock=none\/pv.ownBlock≠v.ownBlock)
  (hg:(w.alloc (.cells #[s] 22)).grownBy w' v.ownBlock) (hl:v'.ownBlock=v.ownBlock\/v'.ownBlock=some (w.alloc (.cells #[s] 22)).heap.size) :
  LLs lo hi w' pv sp ps/\(pv.ownBlock=none\/pv.ownBlock≠v'.ownBlock):=by
 have hk:=η w (.cells #[s] 22);refine⟨LLs.far (hp.below hk hh) (hO.1.below hk (le_ _)) hg hd,?_⟩;rcases hl with e|e
 ·rw[e];exact hd
 ·rw[e]
  cases hb:pv.ownBlock with
  | none=>exact .inl rfl
  | some g=>
   right
   have:=(hp.1.1.lt g hb).2;have hz:(w.alloc (.cells #[s] 22)).heap.size=w.heap.size+1:=ν _ _;simp;omega
theorem z0b(lo hi:Nat)(v:Value)(t0:KT)(w:World)(hx:SlI lo hi w v t0.post)(hh:hi<=w)(hok:t0.ok 0=true)(hsz:t0.size<=40):
  Calls prog 190 #[v] w (ε λv w'=>Ε w w' v (allV t0.post)/\Below w w w'):=by
 obtain⟨a,cap,rfl,hcap,hcm⟩:=ο hx;have HA0:=H_ (AllI.one (P:=Cl t0) (t:=t0) (au_ ..));have HK:=H_ (Cl.kept hok);have HPL:=H_ t0.post_length;have hpl:t0.post.length<=40:=by rw[HPL.o];exact hsz
 have⟨w0,hw0⟩:=xa_ w #[] 3;have hb0:Below w w w0:=by rw[hw0];exact η _ _
 have hs0:w0=w.heap.size+1:=by rw[hw0];simp
 have H0:Q_ (Own 1 w (w+1) 3 w0 (.slice (q_ w 0) 0 0) 0 (ints [])):=H_ (by rw[hw0];exact ς 1 3 w (ints []) 0 (by omega) rfl);have HX0:=H_ (hx.below hb0 hh);have HB0:=H_ hb0;have HW0:=H_ hw0;clear hx hw0 hb0
 go_enter func190,ntmps190
 go_wp2_with (at_builtin;go_loud (rw[<-HW0.o];refine Τ rfl _ _ 22 rfl 3 (0:Int) 1 8 underlying22 τ rfl (by decide) (by decide) rfl H0.o rfl HX0.o (Β _) ?c1 ?c2 ?_))
 case c1=>omega
 case c2=>omega
 intro v1 w1 ho1 _ hout1 _;have hz1:=hout1.size;have ho1':γ w w1 3 w1 v1 t0.post:=γ.len (xs:=t0.post) (by simpa [ints] using ho1) (by simp);have hH:=LLs.one ho1' (by omega);have H1:=H_ (show Ε w (w1.alloc (.cells #[v1] 22)) (.slice (q_ w1 0) 1 1) [t0.post] from ⟨_,1,[v1],rfl,by rw[ν];exact hH⟩);have HB1:=H_ (show Below w w (w1.alloc (.cells #[v1] 22)) from (δ HB0.o hout1 (le_ _) (by omega)).trans ((η _ _).mono (by omega)));obtain⟨oa,oc,rfl⟩:=θ ho1;clear ho1 hout1 ho1' hH HW0;go_wp2;go_loopw [3,4] (λv i wr=>∃ (k:Nat) (o:List (List Int)),k<=o.length/\o.length<=41/\i=.int .i64 k/\Q_ (Ε w wr v o/\Below w w wr/\allGo (60-k) k o=allV t0.post/\AllI (Cl t0) o)) (λ_ i _=>60-(intOf i).toNat)
 case atStart=>exact⟨0,[t0.post],by simp,by simp,rfl,H_ ⟨H1.o,HB1.o,rfl,HA0.o⟩⟩
 case round=>
  rename World=>wr
  obtain⟨k,o,hk,h41,rfl,HQ⟩:=hrel;have hszr:=HQ.o.2.1.size;obtain⟨og,oc,rfl⟩:=HQ.o.1.shape;by_cases hlt:k<o.length
  ·have HT:=H_ (AllI.tree HK.o HQ.o.2.2.2 hlt)
   have⟨t,ht⟩:=ex_ (Ο (o.getD k []));rw[<-ht]at HT;have HTS:=H_ (Cl.size HT.o.1 hsz);have HTO:=H_ (HK.o.ok HT.o.1);have HOT:=H_ (show o[k]=t.post from by rw[HT.o.2,List.getD,l_ hlt];rfl);have HRI:=H_ (λm (hm:m<=12)=>AllI.row HK.o HQ.o.2.2.2 HT.o.1 hm);have HRL:=H_ (λm (hm:m<=12)=>(HRI.o m hm).len hsz)
   have HRN:=H_ (show allGo (60-(k+1)) (k+1) (rowL o t 12)=allV t0.post from by
    have h:=HQ.o.2.2.1;rw[show 60-k=(60-(k+1))+1 by omega,allGo_more hlt,<-ht]at h;exact h)
   have HT1:=H_ HT.o.1
   have HRP:=H_ (show ∀ m,m<=12->∃ h:k<(rowL o t m).length,(rowL o t m)[k]=t.post from λm _=>by
    (obtain⟨r,hr⟩:=rowL_pre o t m;have hlt2:k<(rowL o t m).length:=by rw[hr,n_];omega);exact⟨hlt2,by rw[c6_ hr,aq_ hlt];exact HOT.o⟩)
   have HAP:=H_ (show Ε w wr (.slice (q_ og 0) o oc) (rowL o t 0)/\Below w w wr from ⟨HQ.o.1,HQ.o.2.1⟩);clear HOT ht HQ HT;go_wp2;go_loopw [3,5] (λv i wx=>∃ α:Nat,α<=4/\i=.int .i64 α/\Q_ (Ε w wx v (rowL o t (3*α))/\Below w w wx)) (λ_ i _=>4-(intOf i).toNat)
   case atStart=>exact⟨0,by omega,rfl,HAP⟩
   case round=>
    clear HAP
    rename World=>wx0
    obtain⟨α,hα,rfl,HA⟩:=hrel;obtain⟨pg,pc,hpv⟩:=HA.o.1.shape;subst hpv;by_cases hlt2:α<4
    ·(have hd2:decide ((α:Int)<=3)=true:=by simp;omega);go_wp2;go_loopw [3,6] (λv i wx=>∃ j:Nat,j<=3/\i=.int .i64 (16+(j:Int))/\Q_ (Ε w wx v (rowL o t (3*α+j))/\Below w w wx)) (λ_ i _=>19-(intOf i).toNat)
     case atStart=>exact⟨0,by omega,rfl,HA⟩
     case round=>
      clear HA
      rename World=>wx
      obtain⟨j,hj,rfl,HA⟩:=hrel;obtain⟨rg,rc,hrv⟩:=HA.o.1.shape;subst hrv;by_cases hlt3:j<3
      ·(have hd3:decide ((16:Int)+(j:Int)<=18)=true:=by simp;omega);(have hzx:=HA.o.2.size;obtain⟨hkr,hkp⟩:=HRP.o (3*α+j) (by omega);have hrl41:=HRL.o (3*α+j) (by omega);obtain⟨u5,_,hc5,hu5⟩:=HA.o.1.at k hkr;rw[hkp]at hu5;have HU5:=H_ hu5;obtain⟨pa5,pc5,rfl⟩:=θ hu5;have hts:=HTS.o)
       have HLB:=H_ (show ∀ y∈rowL o t (3*α+j),y.length<=16777216 from λy hy=>by
        obtain⟨q,hq1,hq2⟩:=(HRI.o (3*α+j) (by omega)).mem y hy;rw[<-hq2,q.post_length];have:=Cl.size hq1 hsz;omega)
       clear hu5 hkp;go_wp2_with fail
       refine(zgd t _ _ _ wx α (16+(j:Int)) HU5.o.sl HTO.o (by omega) hlt2 (by omega) (by omega) (le_ _)).mono ?_;rintro e3 w3 ⟨v3,rfl,h3_,hb3_⟩;have hz3:=hb3_.size;obtain⟨bigP,lnP⟩:=zga HTO.o (by omega) (α:=α) (c:=16+(j:Int)) (by omega)
       have HMP:=H_ (show moveP t (3*α+j)=partsV t α (16+(j:Int)) by
        unfold moveP;rw[show (3*α+j)/3=α by omega,show (3*α+j)%3=j by omega])
       (have⟨ps,hps⟩:=ex_ (partsV t α (16+(j:Int)));rw[<-hps]at h3_ HMP lnP bigP;have HBP:=H_ bigP;clear hps bigP;obtain⟨gp,cp,sp,rfl,h3⟩:=h3_;have HSL:=H_ h3.2.1;have hsl2:sp.length<=1700:=by rw[HSL.o];exact lnP);(obtain⟨rg',rc',rss,hre,hrl⟩:=HA.o.1;injection hre with hre1 hre2 hre3;injection hre1 with hre1;injection hre1 with hre1;subst hre1 hre3;have HA3:=H_ (show Ε w w3 (.slice (q_ rg 0) (rowL o t (3*α+j)).length rc) (rowL o t (3*α+j))/\Below w w w3 from ⟨HA.o.1.go hb3_,HA.o.2.trans (hb3_.mono hzx)⟩);have H3:=H_ h3)
       have HNE:Q_ ((Value.slice (q_ gp 0) sp cp).ownBlock=none\/(Value.slice (q_ gp 0) sp cp).ownBlock≠(Value.slice (q_ rg 0) (rowL o t (3*α+j)).length rc).ownBlock):=H_ (by
        right
        intro e;have h1:=(h3.1.1.lt gp rfl).1;have h2:=(hrl.1.1.lt rg rfl).2;simp only[Value.ownBlock,ar_]at e;omega)
       (have HNI:=H_ (show ∀ n,AllI (Cl t0) (newL (rowL o t (3*α+j)) (ps.take n)) from λn=>AllI.new (HRI.o _ (by omega)) λx hx=>moveP_kept HK.o HT1.o (m:=3*α+j) (by omega) x (by rw[HMP.o];exact a7_ hx));clear h3 hb3_ HA hrl hre2 lnP;go_wp2;go_loopw [3,8] (λv i wy=>∃ n:Nat,n<=sp.length/\i=.int .i64 n/\Q_ ((Ε w wy v (newL (rowL o t (3*α+j)) (ps.take n))/\Below w w wy)/\LLs wx w3 wy (.slice (q_ gp 0) sp cp) sp ps/\((Value.slice (q_ gp 0) sp cp).ownBlock=none\/(Value.slice (q_ gp 0) sp cp).ownBlock≠v.ownBlock)/\w3<=wy.heap.size)) (λ_ i _=>sp.length-(intOf i).toNat));case atStart=>exact⟨0,by omega,rfl,H_ ⟨HA3.o,H3.o,HNE.o,le_ _⟩⟩
       case round=>
        clear HA3 H3 HNE
        rename World=>wy
        (obtain⟨n,hn,rfl,HA⟩:=hrel;obtain⟨qg,qc,ss4,rfl,hq⟩:=HA.o.1.1;have HOQ:=H_ hq;have HLN:=H_ hq.2.1;have h41_:ss4.length<=41:=by rw[HLN.o];exact(HNI.o n).len hsz);clear hq;by_cases hlt4:n<sp.length
        ·(have hnp:n<ps.length:=by rw[<-HSL.o];exact hlt4);(have hzy:=HA.o.2.2.2;have hzw:=HA.o.1.2.size;have HNX:=H_ (newL_snoc ps[n] (ps.take n) (rowL o t (3*α+j)));obtain⟨g6,e6,_,_,hg6,hc6,hu6⟩:=HA.o.2.1.at n hlt4 hnp;injection e6 with e6;injection e6 with e6;subst e6;have HU6:=H_ hu6;obtain⟨pa6,pc6,hs6⟩:=θ hu6;rw[hs6]at hc6;have HS6:=H_ hs6;have hpn:=HBP.o _ (u_ hnp);clear hs6 hu6;go_wp2_with fail);refine(zrj _ _ _ _ _ _ _ ps[n] wy HOQ.o.sl (by rw[<-HS6.o];exact HU6.o.sl) (le_ _) (by omega) (by rw[<-HLN.o];omega) (λy hy=>?_) (by omega)).mono ?_
         ·rcases newL_mem.1 hy with hy|hy
          ·exact HLB.o y hy
          ·have:=HBP.o y (a7_ hy);omega
         rintro e7 w7 ⟨rfl,hb7⟩;have hz7:=hb7.size;have HO7:=H_ ((HOQ.o.below hb7 (le_ _)).lower (le_ _) hz7);have HP7:=H_ (HA.o.2.1.below hb7 (by omega));have HU7:=H_ (HU6.o.below hb7 (by omega));have HB7:=H_ (HA.o.1.2.trans (hb7.mono hzw));have HNE:=H_ HA.o.2.2.1;have hc7:w7.cell? (p_ gp n)=some (.slice pa6 ps[n].length pc6):=(hb7.cell (p:=p_ gp n) hg6).trans hc6;clear hb7 HA hc6;by_cases hmem:ps[n]∈newL (rowL o t (3*α+j)) (ps.take n)
         ·(have hdm:decide (ps[n]∈newL (rowL o t (3*α+j)) (ps.take n))=true:=by simp[hmem]);(have HE:Q_ (newL (rowL o t (3*α+j)) (ps.take (n+1))=newL (rowL o t (3*α+j)) (ps.take n)):=H_ (by rw[F_ hnp,HNX.o,x_ hmem]);clear hmem HNX;rw[hdm];clear hdm;go_wp2;go_roundw);(case rel=>exact⟨n+1,by omega,by go_num,H_ ⟨⟨by rw[HE.o];exact⟨qg,qc,ss4,rfl,HO7.o⟩,HB7.o⟩,HP7.o,HNE.o,by omega⟩⟩);case measure=>simp[intOf];omega
         ·(have hdm:decide (ps[n]∈newL (rowL o t (3*α+j)) (ps.take n))=false:=by simp[hmem]);(have HE:Q_ (newL (rowL o t (3*α+j)) (ps.take (n+1))=newL (rowL o t (3*α+j)) (ps.take n)++[ps[n]]):=H_ (by rw[F_ hnp,HNX.o,m_ hmem]);clear hmem HNX;rw[hdm];clear hdm;go_wp2_with (at_builtin;go_loud (refine zbt w7 rfl _ _ 119 rfl 22 () 1 24 underlying119 zag rfl (by decide) (by decide) rfl HO7.o.1 1 [.slice pa6 ps[n].length pc6] rfl rfl (by intro u hu;simp only[k_] at hu;subst hu;rfl) rfl ?c1 ?c2 ?_)));case c1=>omega
          case c2=>omega
          intro v8 w8 ho8 hg8 hl8 _;replace hl8:v8.ownBlock=(Value.slice (q_ qg 0) ss4 qc).ownBlock\/v8.ownBlock=some (w7.alloc (.cells #[.slice pa6 ps[n].length pc6] 22)).heap.size:=by rw[ν];exact hl8
          (have HJ:=H_ (Ε.app HO7.o (by rw[<-HS6.o];exact HU7.o.lower (by omega) (by omega)) ho8 hg8);have HF8:=H_ (LLs.beside HO7.o HP7.o (by omega) HNE.o hg8 hl8);have hz8:=hg8.size;have hz8':(w7.alloc (.cells #[.slice pa6 ps[n].length pc6] 22)).heap.size=w7.heap.size+1:=ν _ _;have HB8:=H_ (δ HB7.o HJ.o.2 (le_ _) (by omega));obtain⟨y8,yc8,rfl⟩:=θ ho8;clear ho8 hg8 hl8;go_wp2;go_roundw);(case rel=>exact⟨n+1,by omega,by go_num,H_ ⟨⟨by rw[HE.o];exact HJ.o.1,HB8.o⟩,HF8.o.1,HF8.o.2,by omega⟩⟩);case measure=>simp[intOf];omega
        ·(obtain rfl:n=sp.length:=by omega)
         have HAF:=H_ (show Ε w wy (.slice (q_ qg 0) ss4 qc) (rowL o t (3*α+(j+1)))/\Below w w wy from by
          have h:=HA.o.1;rw[HSL.o,Y_,<-HMP.o]at h;exact h)
         clear HA HNI HSL HMP HOQ HLN;go_wp2;go_roundw
         (case rel=>exact⟨j+1,by omega,by go_num,HAF⟩);case measure=>simp[intOf];omega
      ·(obtain rfl:j=3:=by omega);go_wp2;go_roundw
       (case rel=>exact⟨α+1,by omega,by go_num,HA⟩);case measure=>simp[intOf];omega
    ·(obtain rfl:α=4:=by omega)
     have HLL:=H_ (show k+1<=(rowL o t 12).length from by
      obtain⟨h,_⟩:=HRP.o 12 (le_ _);omega)
     go_wp2;go_roundw
     (case rel=>exact⟨k+1,_,HLL.o,HRL.o 12 (le_ _),by go_num,H_ ⟨HA.o.1,HA.o.2,HRN.o,HRI.o 12 (le_ _)⟩⟩);case measure=>simp[intOf];omega
  ·obtain rfl:k=o.length:=by omega
   have HE:=H_ (show o=allV t0.post from by
    (have h:=HQ.o.2.2.1)
    rwa [show 60-o.length=(59-o.length)+1 by omega,allGo_done (le_ _)]at h)
   go_wp2;go_ret;exact ε.mk _ rfl ⟨by rw[<-HE.o];exact HQ.o.1,HQ.o.2.1⟩
def zcw(e:List Int):List (List Int):=if μ e then allV e else []
theorem z06(lo hi:Nat)(v:Value)(es:List Int)(w:World)(hx:SlI lo hi w v es)(hm:es.length<=1048576)(hh:hi<=w):
  Calls prog 159 #[v] w (ε λv w'=>Ε w w' v (zcw es)/\Below w w w'):=by
 obtain⟨a,cap,rfl,_,_⟩:=ο hx;have HX:=H_ hx;clear hx;cases hk:μ es with
 | true=>
  obtain⟨t,h1,h2,_,h4⟩:=zd6 hk;have HE:=H_ (show zcw es=allV t.post by rw[zcw,hk,x_ rfl,h2]);have HC:=H_ (z0b lo hi (.slice a es cap) t w (by rw[h2];exact HX.o) hh h1 h4);clear h1 h2 h4
  go_enter func159,ntmps159
  go_wp2_with fail
  refine(zai _ _ _ es _ HX.o (by omega)).mono ?_;rintro e w1 ⟨rfl,rfl⟩;rw[hk];clear hk;go_wp2_with fail
  refine HC.o.mono ?_;rintro e w2 ⟨v2,rfl,h2,hb⟩;rw[<-HE.o]at h2;have HR:=H_ (a_ h2 hb);obtain⟨g2,c2,rfl⟩:=h2.shape;clear hb h2;go_wp2;go_ret;exact ε.mk _ rfl HR.o
 | false=>
  have HE:=H_ (show zcw es=[] by rw[zcw,hk];rfl)
  go_enter func159,ntmps159
  go_wp2_with fail
  refine(zai _ _ _ es _ HX.o (by omega)).mono ?_;rintro e w1 ⟨rfl,rfl⟩;rw[hk];clear hk;go_wp2;go_ret;exact ε.mk _ rfl ⟨by rw[HE.o];exact zfb _ _ (le_ _),η _ _⟩
structure AUE(g:Nat)(w3 wr:World)(L:List (List Int))(k:Nat)(va vb:Value)(ss:List Value)(x:List Int):Prop where
 blk:Blk g (.cells #[va,vb] 123) wr
 ends:γ w3 wr 3 wr va ((L.take k).map endL++[endL x])
 next:LLs w3 wr wr vb ss ((L.take k).map (nextL L))
 far:∀ u∈ss,u.ownBlock=none\/u.ownBlock≠va.ownBlock
 o:β g (g+1) w3 wr
theorem AUE.go {wx:World}(h:AUE g w3 wr L k va vb ss x)(hb:Below wr wr wx):AUE g w3 wx L k va vb ss x:=
 ⟨h.blk.below hb h.blk.lt,(h.ends.below hb (le_ _)).lower (le_ _) hb.size,(h.next.below hb (le_ _)).lower (le_ _) hb.size,h.far,h.o.trans (β.of_below hb (le_ _))⟩
theorem AUI.endsE {w7 w9:World} {v9:Value}(h:AUI g w3 w7 L k va vb ss)(hg:g+1<=w3.heap.size)(hk:k<=L.length)
  (ho:Own 1 w3 w9 3 w9 v9 (k+1) (ints ((L.take k).map endL)++[.int .i64 (endL x)])) (hgr:(w7.alloc (.cells #[.int .i64 (endL x)] 3)).grownBy w9 va.ownBlock)
  (hl:v9.ownBlock=va.ownBlock\/v9.ownBlock=some (w7.alloc (.cells #[.int .i64 (endL x)] 3)).heap.size):AUE g w3 (w9.setCell (p_ g 0) v9) L k v9 vb ss x:=by
 have ha:=η w7 (.cells #[.int .i64 (endL x)] 3);have hz:(w7.alloc (.cells #[.int .i64 (endL x)] 3)).heap.size=w7.heap.size+1:=ν _ _;have hz9:=hgr.size;have hO:=β.put g 0 w9 v9;have hzO:=hO.size;have h1:=h.go ha;have hsz3:=h.o.size;have hgo:=zbz hgr h1.ends.lt;refine⟨?_,?_,⟨?_,h.next.2.1,λi p1 p2=>?_⟩,λu hu=>?_,?_⟩
 ·exact(h1.blk.outside hgo (by omega)).put 0 v9
 ·have:=(show Own 1 w3 w9 3 w9 v9 (k+1) (ints ((L.take k).map endL++[endL x])) by rw[zae];exact ho)
  exact(γ.len this (by simp;omega)).outside hO (.inr hg) |>.lower (le_ _) hzO
 ·exact(((h1.next.1.keep hgr (zns h1.next.1 h1.ends (by decide))).outside hO (.inr hg))).wide2 (le_ _) (by omega)
 ·exact(((h1.next.2.2 i p1 p2).keep hgr (h.far _ (u_ p1))).outside hO (.inr hg)).wide2 (le_ _) (by omega)
 ·rcases hl with e|e
  ·rw[e];exact h.far u hu
  ·obtain⟨i,hi,rfl⟩:=ax_ hu
   rw[e];cases hb:ss[i].ownBlock with
   | none=>exact .inl rfl
   | some j=>
    right
    have:=(h.next.2.2 i hi (by rw[<-h.next.2.1];exact hi)).2 j hb;simp;omega
 ·exact(h1.o.fresh hgo (le_ _)).trans hO
theorem AUE.row {wa:World} {row:Value}(h:AUE g w3 wa L k va vb ss x)(hb:Below wa wa wr)(hr:γ wa wr 3 wr row (nextL L x)):AUH g w3 wr L k va vb ss row x:=by
 have h1:=h.go hb;have hs:=h.o.size;refine⟨h1.blk,h1.ends,h1.next,h1.far,hr.lower hs (le_ _),?_,h1.o⟩;cases hub:row.ownBlock with
 | none=>exact .inl rfl
 | some j=>
  right
  intro e;have h2:=(hr.1.lt j hub);have h3:=h.ends.2 j e.symm;omega
noncomputable def zdi(L:List (List Int))(x:List Int)(m:Nat):List Int:=(List.range m).map λm=>((setL L x m:Nat):Int)
theorem z09(L:List (List Int))(x:List Int)(m:Nat):zdi L x (m+1)=zdi L x m++[((setL L x m:Nat):Int)]:=by
 unfold zdi;rw[List.range_succ,by_];rfl
theorem zh4(L:List (List Int))(x:List Int)(m:Nat):(zdi L x m).length=m:=by simp[zdi]
noncomputable def zei(L:List (List Int))(x:List Int)(m j:Nat):Nat:=bitsN j λi=>L.getD i []∈moveP (Ο x) m
theorem zzd(hj:j<L.length)(h:L[j]∈moveP (Ο x) m):zei L x m (j+1)=zei L x m j+2 ^ j:=by
 unfold zei;rw[bitsN,x_]
 rwa [show L.getD j []=L[j] by simp[List.getD,l_ hj]]
theorem zt9(hj:j<L.length)(h:L[j] ∉ moveP (Ο x) m):zei L x m (j+1)=zei L x m j:=by
 unfold zei;rw[bitsN,m_]
 ·rfl
 ·rwa [show L.getD j []=L[j] by simp[List.getD,l_ hj]]
theorem zsw(L:List (List Int))(x:List Int)(m j:Nat):zei L x m j<2 ^ j:=bitsN_lt _ _
end Go.Proofs.YtfnnhimopokpnaaGreatDoor
