/- Lemmas for this seat; no condition. -/
import Derived.Test.YtfnnhimopokpnaaGreatDoorHDAS
namespace Go.Proofs.YtfnnhimopokpnaaGreatDoor
open Go.RowKit Proofs.Tryz
set_option maxRecDepth 100000
set_option maxHeartbeats 0
set_option linter.all false
variable {t x:List Int} {l xss L:List (List Int)} {k lo hi n cap g lo' m j:Nat} {w w' w3 wr:World} {ss:List Value} {v v' s va vb:Value}
theorem zjj:∀ {k:Nat} {l:List (List Int)},k<=l.length->(∀ j (_:j<k) (h2:j<l.length),ltL l[j] t=true)->addL t l=l.take k++addL t (l.drop k)
 | 0,l,_,_=>by simp
 | k+1,[],h,_=>by simp at h
 | k+1,x :: r,h,hj=>by
  have h0:=hj 0 (by omega) (by simp);simp only[bh_]at h0;rw[addL,x_ h0,List.take_succ_cons,List.drop_succ_cons,aj_];rw[zjj (k:=k) (by simpa using h) λj h1 h2=>by have h3:=hj (j+1) (by omega) (by simp;omega);rwa [de_]at h3]
theorem z2o(h:∀ j (_:j<l.length) (h2:j<l.length),ltL l[j] t=true):addL t l=l.take l.length++[t]++l.drop l.length:=by
 rw[zjj (le_ _) h];simp[addL]
theorem zw3(hk:k<l.length)(h:∀ j (_:j<k) (h2:j<l.length),ltL l[j] t=true)(he:l[k]=t):addL t l=l:=by
 rw[zjj (cr_ hk) h,y_ hk,addL,he,ltL_irr];rw[m_ (by simp),x_ rfl]
 conv=>rhs;rw[<-List.take_append_drop k l,y_ hk,he]
theorem z1r(hk:k<l.length)(h:∀ j (_:j<k) (h2:j<l.length),ltL l[j] t=true)(hn:ltL l[k] t=false)(he:l[k]≠t):addL t l=l.take k++[t]++l.drop k:=by
 rw[zjj (cr_ hk) h,y_ hk,addL,hn,m_ (by simp),m_ he];simp
theorem LLs.fore(h:LLs lo hi w (.slice (q_ g 0) n cap) ss xss)(k:Nat)(hk:k<=ss.length):Sl 1 lo hi w (.slice (q_ g 0) k cap) k (ss.take k):=by
 obtain⟨a,c,e,h1,h2,h3,h4,h5⟩:=h.1.sl;injection e with e1 E I;subst e1 E I;refine⟨_,_,rfl,by omega,h2,by simp;omega,h4,λi hi'=>?_⟩;rw[am_]at hi';obtain⟨b,off,f1,J,K,U,Z⟩:=h5 i (by omega);exact⟨b,off,f1,J,K,U,by rw[Z,bb_,x_ (by omega)]⟩
theorem LLs.back(h:LLs lo hi w (.slice (q_ g 0) n cap) ss xss)(k:Nat)(hk:k<=ss.length):Sl 1 lo hi w (.slice (if cap=k then some ⟨g,0,none⟩ else some ⟨g,k,none⟩) (ss.length-k) (cap-k)) (ss.length-k) (ss.drop k):=by
 obtain⟨a,c,e,h1,h2,h3,h4,h5⟩:=h.1.sl;injection e with e1 I J;subst e1 I J;unfold maxLen at h2
 split
 ·rename_i hc
  have h0:ss.length-k=0:=by omega
  rw[az_ (by omega),h0];exact⟨_,_,rfl,aw_ _,by unfold maxLen;omega,rfl,(λh=>by cases h),λi hi'=>by simp at hi'⟩
 ·refine⟨_,_,rfl,by omega,by unfold maxLen;omega,by simp,(λh=>by cases h),λi hi'=>?_⟩
  rw[af_]at hi';obtain⟨b,off,f1,K,U,Z,f5⟩:=h5 (k+i) (by omega);injection f1 with f1;injection f1 with f1 E;subst f1 E;refine⟨_,_,rfl,K,U,Z,?_⟩;rw[du_,<-f5,U_]
theorem zik {e:Nat} {xs:List Value}(h:Own 1 lo hi e w v n xs)(h0:xs≠[]):∃ g cap,v=.slice (q_ g 0) n cap:=by
 rcases h.1.2 with⟨e1,h1⟩|⟨g,E,I,e1,_⟩
 ·have:=h.1.1
  rw[h1]at this;simp at this;exact absurd this h0
 ·exact⟨g,E,e1⟩
theorem LLs.zero(lo:Nat)(w:World)(hl:lo<=w):LLs lo (w+1) (w.alloc (.cells #[] 22)) (.slice (q_ w 0) 0 0) [] []:=⟨(ς 1 22 w [] 0 (by omega) rfl).wide2 hl (le_ _),rfl,λi h=>by simp at h⟩
def zff:=@LLs.zero
def Ζ(lo:Nat)(w':World)(v:Value)(xss:List (List Int)):Prop:=∃ g cap ss,v=.slice (q_ g 0) ss.length cap/\LLs lo w' w' v ss xss
theorem z1o(lo hi n cap g:Nat)(vt:Value)(ss:List Value)(xss:List (List Int))(t:List Int)(w:World)(hx:LLs lo hi w (.slice (q_ g 0) n cap) ss xss)(ht:γ lo hi 3 w vt t)(hl:lo<=w)(hh:hi<=w)(hm:ss.length<=100000)(f7:∀ x∈xss,x.length<=16777216)(f8:t.length<=16777216):
  Calls prog 191 #[.slice (q_ g 0) n cap,vt] w (ι λv w'=>Ζ lo w' v (addL t xss)/\Below w w w'):=by
 obtain rfl:n=ss.length:=by obtain⟨a,c,e⟩:=η hx.1;injection e
 have HX:=H_ hx;have HT:=H_ ht;have g5:=H_ f7;have c8:=H_ hx.2.1;obtain⟨K,U,rfl⟩:=η ht;obtain⟨_,_,hq,h7,h8⟩:=hx.sl.shape;injection hq with g9 f9 i0;subst g9 i0;rw[<-f9]at h7;unfold maxLen at h8;clear hx ht f7 f9
 go_enter func191,ntmps191
 go_wp2;go_loopw [5] (λi wr=>∃ k:Nat,k<=ss.length/\i=.int .i64 k/\Q_ (Below w w wr)/\Q_ (∀ j (_:j<k) (h2:j<xss.length),ltL xss[j] t=true)) (λi _=>ss.length-(intOf i).toNat)
 case atStart=>exact⟨0,by omega,rfl,H_ (B_ _ _),H_ (by intro j h;omega)⟩
 case round=>
  rename World=>wr
  obtain⟨k,hk,rfl,HB,HJ⟩:=hrel;have i2:=HB.o.size;have g8:=H_ (HX.o.below HB.o hh);have f3:=H_ (HT.o.below HB.o hh);by_cases hlt:k<ss.length
  ·have e5:k<xss.length:=by rw[<-c8.o];exact hlt
   obtain⟨g',e,_,_,hg,hc,hu⟩:=g8.o.at k hlt e5;injection e with e;injection e with e;subst e;have HU:=H_ hu;obtain⟨ua,uc,hs⟩:=η hu;rw[hs]at hc;have HS:=H_ hs;have f6:=g5.o _ (u_ e5);have f4:=H_ (show SlI lo hi wr (.slice ua xss[k].length uc) xss[k] from by rw[<-hs];exact hu.sl);clear hs hu;go_wp2_with fail
   refine(zn7 _ _ _ _ _ _ xss[k] t wr f4.o f3.o.sl f6 f8).mono ?_;rintro e1 w1 ⟨rfl,c9⟩;have i4:=c9.size;have f2:=HB.tr c9 i2;cases d3:ltL xss[k] t
   ·(have g4:=H_ d3);(have g7:=H_ (f4.o.below c9 (by omega));have g6:=H_ (f3.o.below c9 (by omega));have i3:w1.cell? (p_ g k)=some (.slice ua xss[k].length uc):=(c9.cell (p:=p_ g k) hg).trans hc;clear c9 hc d3;go_wp2_with fail);refine(zjt _ _ _ _ _ _ xss[k] t w1 g7.o g6.o.sl f6 f8).mono ?_;rintro e2 w2 ⟨rfl,hb2⟩;have i5:=hb2.size;have e7:=f2.tr hb2 (by omega);cases d4:eqL xss[k] t
    ·(have HA:=H_ (z1r e5 HJ.o g4.o (λh=>by rw[h,zhu] at d4;cases d4)));clear hb2 d4;have b5:=e7;have e6:=b5.o.size;have a7:=H_ (HX.o.below b5.o hh);have e9:=H_ (HT.o.below b5.o hh);have G1:=H_ (ζ w2 (.cells #[] 22));have G2:=H_ ((ζ w2 (.cells #[] 22)).trans ((ζ (w2.alloc (.cells #[] 22)) (.cells #[.slice K t U] 22)).mono (by simp)));have G3:=H_ ((ζ w2 (.cells #[.slice K t U] 22)).trans ((ζ (w2.alloc (.cells #[.slice K t U] 22)) (.cells #[] 22)).mono (by simp)));have z1:(w2.alloc (.cells #[] 22)).drew.heap.size=w2.heap.size+1:=by show ((w2.alloc (.cells #[] 22))).heap.size=_;simp
     (have D1:Q_ (Below w2 w2 (w2.alloc (.cells #[] 22)).drew):=H_ (G1.o.drew);have F1:=H_ ((a7.o.fore (k) (by omega)).below D1.o (by omega));have z2:((w2.alloc (.cells #[] 22)).alloc (.cells #[.slice K t U] 22)).drew.heap.size=w2.heap.size+2:=by show (((w2.alloc (.cells #[] 22)).alloc (.cells #[.slice K t U] 22))).heap.size=_;simp);(have D2:Q_ (Below w2 w2 ((w2.alloc (.cells #[] 22)).alloc (.cells #[.slice K t U] 22)).drew):=H_ (G2.o.drew);have F2:=H_ ((a7.o.fore (k) (by omega)).below D2.o (by omega));have z3:((w2.alloc (.cells #[.slice K t U] 22)).alloc (.cells #[] 22)).drew.heap.size=w2.heap.size+2:=by show (((w2.alloc (.cells #[.slice K t U] 22)).alloc (.cells #[] 22))).heap.size=_;simp);(have D3:Q_ (Below w2 w2 ((w2.alloc (.cells #[.slice K t U] 22)).alloc (.cells #[] 22)).drew):=H_ (G3.o.drew);have F3:=H_ ((a7.o.fore (k) (by omega)).below D3.o (by omega));have B1:Q_ (LLs w2 (w2+1) (w2.alloc (.cells #[] 22)).drew (.slice (q_ w2 0) 0 0) [] []):=H_ (LLs.below (zff w2 w2 (le_ _)) (z_ (B_ (w2+1) _)) (le_ _));have B2:Q_ (LLs w2 (w2+1) ((w2.alloc (.cells #[] 22)).alloc (.cells #[.slice K t U] 22)).drew (.slice (q_ w2 0) 0 0) [] []):=H_ ((zff w2 w2 (le_ _)).below (B:=w2.heap.size+1) (z_ (by rw[<-μ w2 (.cells #[] 22)];exact ζ (w2.alloc (.cells #[] 22)) (.cells #[.slice K t U] 22))) (le_ _));have B3:Q_ (LLs (w2+1) ((w2.heap.size+1)+1) ((w2.alloc (.cells #[.slice K t U] 22)).alloc (.cells #[] 22)).drew (.slice (q_ ((w2.heap.size+1)) 0) 0 0) [] []):=H_ (by have h:=zff (w2.alloc (.cells #[.slice K t U] 22)).heap.size (w2.alloc (.cells #[.slice K t U] 22)) (le_ _);rw[μ] at h;exact h.below (z_ (B_ (w2.heap.size+1+1) _)) (le_ _));have L2:Q_ (Sl 1 (w2+1) (w2+2) ((w2.alloc (.cells #[] 22)).alloc (.cells #[.slice K t U] 22)).drew (.slice (q_ (w2+1) 0) 1 1) 1 [.slice K t U]):=H_ (by have h:=(ς 1 22 (w2.alloc (.cells #[] 22)) [.slice K t U] 1 (by omega) rfl).sl;rw[μ] at h;exact h.below (z_ (B_ (w2+2) _)) (le_ _));have L3:Q_ (Sl 1 w2 (w2+1) ((w2.alloc (.cells #[.slice K t U] 22)).alloc (.cells #[] 22)).drew (.slice (q_ w2 0) 1 1) 1 [.slice K t U]):=H_ ((ς 1 22 w2 [.slice K t U] 1 (by omega) rfl).sl.below (B:=w2.heap.size+1) (z_ (by rw[<-μ w2 (.cells #[.slice K t U] 22)];exact ζ (w2.alloc (.cells #[.slice K t U] 22)) (.cells #[] 22))) (le_ _));have A1:Q_ (Own 1 w2 (w2+1) 22 (w2.alloc (.cells #[] 22)).drew (.slice (q_ w2 0) 0 0) 0 []):=H_ B1.o.1;have A2:Q_ (Own 1 w2 (w2+1) 22 ((w2.alloc (.cells #[] 22)).alloc (.cells #[.slice K t U] 22)).drew (.slice (q_ w2 0) 0 0) 0 []):=H_ B2.o.1;have A3:Q_ (Own 1 (w2+1) ((w2.heap.size+1)+1) 22 ((w2.alloc (.cells #[.slice K t U] 22)).alloc (.cells #[] 22)).drew (.slice (q_ ((w2.heap.size+1)) 0) 0 0) 0 []):=H_ B3.o.1;have⟨y1,y2,y3,y4,y5,y6⟩:(0:Int)<=((k:Nat):Int)/\((k:Nat):Int)<=(cap:Int)/\k<=cap/\((k:Nat):Int)<=(ss.length:Int)/\(ss.length:Int)<=(cap:Int)/\((ss.length:Int)-((k:Nat):Int)).toNat=ss.length-k:=by omega);(have y7:(0:Int)<=(ss.length:Int):=by omega);(have b6:=H_ (a7.o.back (k) (by omega));have b1:=H_ (show (∀ u∈ss.take (k),u.oneCell'=true)/\∀ u∈ss.drop (k),u.oneCell'=true from ⟨λu hu=>a7.o.cellsOne u (a7_ hu),λu hu=>a7.o.cellsOne u (List.mem_of_mem_drop hu)⟩))
     have a6:=H_ (show ∀ w9:World,Below w2 w2 w9->(∀ i (h1:i<(ss.take (k)).length) (h2:i<(xss.take (k)).length),γ lo w9 3 w9 (ss.take (k))[i] (xss.take (k))[i])/\(∀ i (h1:i<(ss.drop (k)).length) (h2:i<(xss.drop (k)).length),γ lo w9 3 w9 (ss.drop (k))[i] (xss.drop (k))[i])/\γ lo w9 3 w9 (.slice K t U) t from λw9 h9=>⟨λi h1 h2=>by
       rw[b1_,b1_];exact((a7.o.2.2 i (by rw[am_]at h1;omega) (by rw[am_]at h2;omega)).below h9 (by omega)).lower (le_ _) (by have:=h9.size;omega),λi h1 h2=>by
       rw[db_,db_];exact((a7.o.2.2 (k+i) (by rw[af_]at h1;omega) (by rw[af_]at h2;omega)).below h9 (by omega)).lower (le_ _) (by have:=h9.size;omega),(e9.o.below h9 (by omega)).lower (le_ _) (by have:=h9.size;omega)⟩)
     (have Z:=H_ (show (ss.take (k)).length=(xss.take (k)).length/\(ss.drop (k)).length=(xss.drop (k)).length/\(ss.take (k)).length=k/\(ss.drop (k)).length=ss.length-k from ⟨by rw[am_,am_,c8.o],by rw[af_,af_,c8.o],by rw[am_];omega,by rw[af_]⟩);go_upto_region 6 with fail);(have e8:True:=trivial;have hcs:¬cap=k:=by omega);rw[m_ hcs]at b6;have d5:=H_ b6.o
     go_region_held3 (λw'=>w'=w'.heap.size) (first | rfl | trivial) (first
      | (refine zbp (by rfl) _ _ 119 (by rfl) 22 () 1 24 underlying119 zab (by rfl) (by decide) (by decide) (by rfl) A1.o (by rfl) F1.o b1.o.1 (by omega) (by omega) ?_;intro v9 w9 a1 I a5;rw[U_,ad_] at a1;(have s9:=I.size);(have J9:=H_ (ε D1.o I (by omega) (by omega)));(have K9:Q_ (LLs lo w9 w9 v9 (ss.take (k)) (xss.take (k))):=H_ (za9 (B1.o.lower (lo':=lo) (by omega) (le_ _)) a5 (a1.wide2 (by omega) (le_ _)) (by rw[Z.o.2.2.1];simp) Z.o.1 (λi h1 h2=>((a6.o (w2.alloc (.cells #[] 22)).drew D1.o).1 i h1 h2).lower (le_ _) s9) (by omega)));(have O9:=H_ a1);(have P9:=H_ (show w2<=w2.heap.size from le_ _));(have X9:Q_ (Sl 1 w9 (w9+1) (w9.alloc (.cells #[.slice K t U] 22)) (.slice (q_ w9 0) 1 1) 1 [.slice K t U]):=H_ (ς 1 22 w9 [.slice K t U] 1 (by omega) rfl).sl);(have Y9:=H_ (J9.o.trans ((ζ w9 (.cells #[.slice K t U] 22)).mono (by omega))));(have e3:=H_ (O9.o.alloc (.cells #[.slice K t U] 22)));(have d8:=H_ (K9.o.below (ζ w9 (.cells #[.slice K t U] 22)) (by omega)));clear a1 I a5)
      | (refine zbp (by rfl) _ _ 119 (by rfl) 22 () 1 24 underlying119 zab (by rfl) (by decide) (by decide) (by rfl) A2.o (by rfl) F2.o b1.o.1 (by omega) (by omega) ?_;intro v9 w9 a1 I a5;rw[U_,ad_] at a1;(have s9:=I.size);(have J9:=H_ (ε D2.o I (by omega) (by omega)));(have K9:Q_ (LLs lo w9 w9 v9 (ss.take (k)) (xss.take (k))):=H_ (za9 (B2.o.lower (lo':=lo) (by omega) (le_ _)) a5 (a1.wide2 (by omega) (le_ _)) (by rw[Z.o.2.2.1];simp) Z.o.1 (λi h1 h2=>((a6.o ((w2.alloc (.cells #[] 22)).alloc (.cells #[.slice K t U] 22)).drew D2.o).1 i h1 h2).lower (le_ _) s9) (by omega)));(have O9:=H_ a1);(have P9:=H_ (show w2<=w2.heap.size from le_ _));(have X9:=H_ (L2.o.outside I (by omega)));clear a1 I a5)
      | (refine zbp (by rfl) _ _ 119 (by rfl) 22 () 1 24 underlying119 zab (by rfl) (by decide) (by decide) (by rfl) A3.o (by rfl) F3.o b1.o.1 (by omega) (by omega) ?_;intro v9 w9 a1 I a5;rw[U_,ad_] at a1;(have s9:=I.size);(have J9:=H_ (ε D3.o I (by omega) (by omega)));(have K9:Q_ (LLs lo w9 w9 v9 (ss.take (k)) (xss.take (k))):=H_ (za9 (B3.o.lower (lo':=lo) (by omega) (le_ _)) a5 (a1.wide2 (by omega) (le_ _)) (by rw[Z.o.2.2.1];simp) Z.o.1 (λi h1 h2=>((a6.o ((w2.alloc (.cells #[.slice K t U] 22)).alloc (.cells #[] 22)).drew D3.o).1 i h1 h2).lower (le_ _) s9) (by omega)));(have O9:=H_ a1);(have P9:=H_ (show (w2.heap.size+1)<=(w2.heap.size+1) from le_ _));(have X9:=H_ (L3.o.outside I (by omega)));clear a1 I a5)
      | (refine zbp (by rfl) _ _ 119 (by rfl) 22 () 1 24 underlying119 zab (by rfl) (by decide) (by decide) (by rfl) e3.o (by rfl) X9.o (by intro u hu;simp only[k_] at hu;subst hu;rfl) (by omega) (by simp only[μ];omega) ?_;intro b0 a3 J E a2;(have c6:w9<=a3.heap.size:=J_ (ζ w9 (.cells #[.slice K t U] 22)).size E.size);(have a8:=H_ (ε Y9.o E (by omega) (by simp only[μ];omega)));(have b3:Q_ (LLs lo a3 a3 b0 (ss.take (k)++[.slice K t U]) (xss.take (k)++[t])):=H_ (za9 d8.o a2 (J.wide2 (by omega) (le_ _)) (by rw[Z.o.2.2.1];rfl) (yss:=[t]) rfl (λi h1 h2=>by (have e0:i=0:=by (simp at h1;omega));subst e0;exact((a6.o (w9.alloc (.cells #[.slice K t U] 22)) Y9.o).2.2).lower (le_ _) E.size) (by omega)));(have b4:=H_ J);clear J E a2)
      | (refine zbp (by rfl) _ _ 119 (by rfl) 22 () 1 24 underlying119 zab (by rfl) (by decide) (by decide) (by rfl) O9.o (by rfl) X9.o (by intro u hu;simp only[k_] at hu;subst hu;rfl) (by omega) (by omega) ?_;intro b0 a3 J E a2;(have c6:w9<=a3.heap.size:=J_ (B_ w9 w9).size E.size);(have a8:=H_ (ε J9.o E (by omega) (by omega)));(have b3:Q_ (LLs lo a3 a3 b0 (ss.take (k)++[.slice K t U]) (xss.take (k)++[t])):=H_ (za9 K9.o a2 (J.wide2 (by omega) (le_ _)) (by rw[Z.o.2.2.1];rfl) (yss:=[t]) rfl (λi h1 h2=>by (have e0:i=0:=by (simp at h1;omega));subst e0;exact((a6.o w9 J9.o).2.2).lower (le_ _) E.size) (by omega)));(have b4:=H_ J);clear J E a2)
      | (refine zbp (by rfl) _ _ 119 (by rfl) 22 () 1 24 underlying119 zab (by rfl) (by decide) (by decide) (by rfl) O9.o (by rfl) X9.o (by intro u hu;simp only[k_] at hu;subst hu;rfl) (by omega) (by omega) ?_;intro b0 a3 J E a2;(have c6:w9<=a3.heap.size:=J_ (B_ w9 w9).size E.size);(have a8:=H_ (ε J9.o E (by omega) (by omega)));(have b3:Q_ (LLs lo a3 a3 b0 (ss.take (k)++[.slice K t U]) (xss.take (k)++[t])):=H_ (za9 K9.o a2 (J.wide2 (by omega) (le_ _)) (by rw[Z.o.2.2.1];rfl) (yss:=[t]) rfl (λi h1 h2=>by (have e0:i=0:=by (simp at h1;omega));subst e0;exact((a6.o w9 J9.o).2.2).lower (le_ _) E.size) (by omega)));(have b4:=H_ J);clear J E a2)
      | (refine zbp (by rfl) _ _ 119 (by rfl) 22 () 1 24 underlying119 zab (by rfl) (by decide) (by decide) (by rfl) b4.o (by rfl) (zch d5.o a8.o (by omega)) b1.o.2 (by omega) (by omega) ?_;intro g2 c7 a9 a4 b2;(have d6:=H_ (ε a8.o a4 (by omega) (by omega)));(have d7:=H_ (za9 b3.o b2 (a9.wide2 (by omega) (le_ _)) (by rw[n_,Z.o.2.2.1,Z.o.2.2.2];rfl) Z.o.2.1 (λi h1 h2=>((a6.o a3 a8.o).2.1 i h1 h2).lower (le_ _) a4.size) a4.size));(have d9:=H_ a9);clear a9 a4 b2))
     all_goals (
      obtain⟨b8,b7,b9⟩:=zik d9.o (by simp);subst b9;have HR:=H_ (show Ζ lo c7 (.slice (q_ b8 0) (k+1+(ss.length-k)) b7) (addL t xss)/\Below w w c7 from ⟨⟨b8,b7,ss.take (k)++[.slice K t U]++ss.drop (k),by rw[n_,n_,Z.o.2.2.1,Z.o.2.2.2];rfl,by rw[HA.o];exact d7.o⟩,b5.o.trans (d6.o.mono e6)⟩);go_wp2;go_ret;exact ι.mk _ rfl HR.o)
    ·(have HA:=H_ (zw3 e5 HJ.o (by rw[zed] at d4;exact av_ d4)));clear hb2 d4;go_wp2;go_ret;exact ι.mk _ rfl ⟨⟨_,_,ss,rfl,by rw[HA.o];exact(HX.o.below e7.o hh).lower (le_ _) (by omega)⟩,e7.o⟩
   ·have g3:=H_ (show ∀ j (_:j<k+1) (h2:j<xss.length),ltL xss[j] t=true from λj h1 h2=>by
     rcases bi_ j k with h|h
     ·exact HJ.o j h h2
     ·(obtain rfl:j=k:=by omega);exact d3)
    clear c9 d3;go_wp2;go_roundw
    (case rel=>exact⟨k+1,by omega,by go_num,f2,g3⟩);case measure=>simp[intOf];omega
  ·have e4:=H_ (show k=ss.length by omega)
   have hd0:decide ((k:Int)<(ss.length:Int))=false:=by simp;omega
   have HA:=H_ (show addL t xss=xss.take k++[t]++xss.drop k from by rw[e4.o,c8.o];exact z2o (λj h1 h2=>HJ.o j (by rw[e4.o,c8.o];exact h1) h2));have b5:=HB;have e6:=b5.o.size;have a7:=H_ (HX.o.below b5.o hh);have e9:=H_ (HT.o.below b5.o hh);have G1:=H_ (ζ wr (.cells #[] 22));have G2:=H_ ((ζ wr (.cells #[] 22)).trans ((ζ (wr.alloc (.cells #[] 22)) (.cells #[.slice K t U] 22)).mono (by simp)));have G3:=H_ ((ζ wr (.cells #[.slice K t U] 22)).trans ((ζ (wr.alloc (.cells #[.slice K t U] 22)) (.cells #[] 22)).mono (by simp)));have z1:(wr.alloc (.cells #[] 22)).drew.heap.size=wr.heap.size+1:=by show ((wr.alloc (.cells #[] 22))).heap.size=_;simp
   have D1:Q_ (Below wr wr (wr.alloc (.cells #[] 22)).drew):=H_ (G1.o.drew);have F1:=H_ ((a7.o.fore (k) (by omega)).below D1.o (by omega));have z2:((wr.alloc (.cells #[] 22)).alloc (.cells #[.slice K t U] 22)).drew.heap.size=wr.heap.size+2:=by show (((wr.alloc (.cells #[] 22)).alloc (.cells #[.slice K t U] 22))).heap.size=_;simp
   have D2:Q_ (Below wr wr ((wr.alloc (.cells #[] 22)).alloc (.cells #[.slice K t U] 22)).drew):=H_ (G2.o.drew);have F2:=H_ ((a7.o.fore (k) (by omega)).below D2.o (by omega));have z3:((wr.alloc (.cells #[.slice K t U] 22)).alloc (.cells #[] 22)).drew.heap.size=wr.heap.size+2:=by show (((wr.alloc (.cells #[.slice K t U] 22)).alloc (.cells #[] 22))).heap.size=_;simp
   have D3:Q_ (Below wr wr ((wr.alloc (.cells #[.slice K t U] 22)).alloc (.cells #[] 22)).drew):=H_ (G3.o.drew);have F3:=H_ ((a7.o.fore (k) (by omega)).below D3.o (by omega));have B1:Q_ (LLs wr (wr+1) (wr.alloc (.cells #[] 22)).drew (.slice (q_ wr 0) 0 0) [] []):=H_ (LLs.below (zff wr wr (le_ _)) (z_ (B_ (wr+1) _)) (le_ _));have B2:Q_ (LLs wr (wr+1) ((wr.alloc (.cells #[] 22)).alloc (.cells #[.slice K t U] 22)).drew (.slice (q_ wr 0) 0 0) [] []):=H_ ((zff wr wr (le_ _)).below (B:=wr.heap.size+1) (z_ (by rw[<-μ wr (.cells #[] 22)];exact ζ (wr.alloc (.cells #[] 22)) (.cells #[.slice K t U] 22))) (le_ _));have B3:Q_ (LLs (wr+1) ((wr.heap.size+1)+1) ((wr.alloc (.cells #[.slice K t U] 22)).alloc (.cells #[] 22)).drew (.slice (q_ ((wr.heap.size+1)) 0) 0 0) [] []):=H_ (by have h:=zff (wr.alloc (.cells #[.slice K t U] 22)).heap.size (wr.alloc (.cells #[.slice K t U] 22)) (le_ _);rw[μ] at h;exact h.below (z_ (B_ (wr.heap.size+1+1) _)) (le_ _));have L2:Q_ (Sl 1 (wr+1) (wr+2) ((wr.alloc (.cells #[] 22)).alloc (.cells #[.slice K t U] 22)).drew (.slice (q_ (wr+1) 0) 1 1) 1 [.slice K t U]):=H_ (by have h:=(ς 1 22 (wr.alloc (.cells #[] 22)) [.slice K t U] 1 (by omega) rfl).sl;rw[μ] at h;exact h.below (z_ (B_ (wr+2) _)) (le_ _));have L3:Q_ (Sl 1 wr (wr+1) ((wr.alloc (.cells #[.slice K t U] 22)).alloc (.cells #[] 22)).drew (.slice (q_ wr 0) 1 1) 1 [.slice K t U]):=H_ ((ς 1 22 wr [.slice K t U] 1 (by omega) rfl).sl.below (B:=wr.heap.size+1) (z_ (by rw[<-μ wr (.cells #[.slice K t U] 22)];exact ζ (wr.alloc (.cells #[.slice K t U] 22)) (.cells #[] 22))) (le_ _));have A1:Q_ (Own 1 wr (wr+1) 22 (wr.alloc (.cells #[] 22)).drew (.slice (q_ wr 0) 0 0) 0 []):=H_ B1.o.1;have A2:Q_ (Own 1 wr (wr+1) 22 ((wr.alloc (.cells #[] 22)).alloc (.cells #[.slice K t U] 22)).drew (.slice (q_ wr 0) 0 0) 0 []):=H_ B2.o.1;have A3:Q_ (Own 1 (wr+1) ((wr.heap.size+1)+1) 22 ((wr.alloc (.cells #[.slice K t U] 22)).alloc (.cells #[] 22)).drew (.slice (q_ ((wr.heap.size+1)) 0) 0 0) 0 []):=H_ B3.o.1;have⟨y1,y2,y3,y4,y5,y6⟩:(0:Int)<=((k:Nat):Int)/\((k:Nat):Int)<=(cap:Int)/\k<=cap/\((k:Nat):Int)<=(ss.length:Int)/\(ss.length:Int)<=(cap:Int)/\((ss.length:Int)-((k:Nat):Int)).toNat=ss.length-k:=by omega
   have y7:(0:Int)<=(ss.length:Int):=by omega
   have b6:=H_ (a7.o.back (k) (by omega));have b1:=H_ (show (∀ u∈ss.take (k),u.oneCell'=true)/\∀ u∈ss.drop (k),u.oneCell'=true from ⟨λu hu=>a7.o.cellsOne u (a7_ hu),λu hu=>a7.o.cellsOne u (List.mem_of_mem_drop hu)⟩)
   have a6:=H_ (show ∀ w9:World,Below wr wr w9->(∀ i (h1:i<(ss.take (k)).length) (h2:i<(xss.take (k)).length),γ lo w9 3 w9 (ss.take (k))[i] (xss.take (k))[i])/\(∀ i (h1:i<(ss.drop (k)).length) (h2:i<(xss.drop (k)).length),γ lo w9 3 w9 (ss.drop (k))[i] (xss.drop (k))[i])/\γ lo w9 3 w9 (.slice K t U) t from λw9 h9=>⟨λi h1 h2=>by
     rw[b1_,b1_];exact((a7.o.2.2 i (by rw[am_]at h1;omega) (by rw[am_]at h2;omega)).below h9 (by omega)).lower (le_ _) (by have:=h9.size;omega),λi h1 h2=>by
     rw[db_,db_];exact((a7.o.2.2 (k+i) (by rw[af_]at h1;omega) (by rw[af_]at h2;omega)).below h9 (by omega)).lower (le_ _) (by have:=h9.size;omega),(e9.o.below h9 (by omega)).lower (le_ _) (by have:=h9.size;omega)⟩)
   have Z:=H_ (show (ss.take (k)).length=(xss.take (k)).length/\(ss.drop (k)).length=(xss.drop (k)).length/\(ss.take (k)).length=k/\(ss.drop (k)).length=ss.length-k from ⟨by rw[am_,am_,c8.o],by rw[af_,af_,c8.o],by rw[am_];omega,by rw[af_]⟩);go_upto_region 6 with fail
   have e8:True:=trivial;rcases (show cap=k\/¬cap=k by omega) with hcs|hcs
   ·rw[x_ hcs,hcs,be_,show ss.length-k=0 by rw[e4.o,be_]]at b6
    rw[show ss.length-k=0 by rw[e4.o,be_]]at Z;have d5:=H_ b6.o;have f5:=hcs.symm;clear hcs b6;subst f5
    go_region_held3 (λw'=>w'=w'.heap.size) (first | rfl | trivial) (first
     | (refine zbp (by rfl) _ _ 119 (by rfl) 22 () 1 24 underlying119 zab (by rfl) (by decide) (by decide) (by rfl) A1.o (by rfl) F1.o b1.o.1 (by omega) (by omega) ?_;intro v9 w9 a1 I a5;rw[U_,ad_] at a1;(have s9:=I.size);(have J9:=H_ (ε D1.o I (by omega) (by omega)));(have K9:Q_ (LLs lo w9 w9 v9 (ss.take (k)) (xss.take (k))):=H_ (za9 (B1.o.lower (lo':=lo) (by omega) (le_ _)) a5 (a1.wide2 (by omega) (le_ _)) (by rw[Z.o.2.2.1];simp) Z.o.1 (λi h1 h2=>((a6.o (wr.alloc (.cells #[] 22)).drew D1.o).1 i h1 h2).lower (le_ _) s9) (by omega)));(have O9:=H_ a1);(have P9:=H_ (show wr<=wr.heap.size from le_ _));(have X9:Q_ (Sl 1 w9 (w9+1) (w9.alloc (.cells #[.slice K t U] 22)) (.slice (q_ w9 0) 1 1) 1 [.slice K t U]):=H_ (ς 1 22 w9 [.slice K t U] 1 (by omega) rfl).sl);(have Y9:=H_ (J9.o.trans ((ζ w9 (.cells #[.slice K t U] 22)).mono (by omega))));(have e3:=H_ (O9.o.alloc (.cells #[.slice K t U] 22)));(have d8:=H_ (K9.o.below (ζ w9 (.cells #[.slice K t U] 22)) (by omega)));clear a1 I a5)
     | (refine zbp (by rfl) _ _ 119 (by rfl) 22 () 1 24 underlying119 zab (by rfl) (by decide) (by decide) (by rfl) A2.o (by rfl) F2.o b1.o.1 (by omega) (by omega) ?_;intro v9 w9 a1 I a5;rw[U_,ad_] at a1;(have s9:=I.size);(have J9:=H_ (ε D2.o I (by omega) (by omega)));(have K9:Q_ (LLs lo w9 w9 v9 (ss.take (k)) (xss.take (k))):=H_ (za9 (B2.o.lower (lo':=lo) (by omega) (le_ _)) a5 (a1.wide2 (by omega) (le_ _)) (by rw[Z.o.2.2.1];simp) Z.o.1 (λi h1 h2=>((a6.o ((wr.alloc (.cells #[] 22)).alloc (.cells #[.slice K t U] 22)).drew D2.o).1 i h1 h2).lower (le_ _) s9) (by omega)));(have O9:=H_ a1);(have P9:=H_ (show wr<=wr.heap.size from le_ _));(have X9:=H_ (L2.o.outside I (by omega)));clear a1 I a5)
     | (refine zbp (by rfl) _ _ 119 (by rfl) 22 () 1 24 underlying119 zab (by rfl) (by decide) (by decide) (by rfl) A3.o (by rfl) F3.o b1.o.1 (by omega) (by omega) ?_;intro v9 w9 a1 I a5;rw[U_,ad_] at a1;(have s9:=I.size);(have J9:=H_ (ε D3.o I (by omega) (by omega)));(have K9:Q_ (LLs lo w9 w9 v9 (ss.take (k)) (xss.take (k))):=H_ (za9 (B3.o.lower (lo':=lo) (by omega) (le_ _)) a5 (a1.wide2 (by omega) (le_ _)) (by rw[Z.o.2.2.1];simp) Z.o.1 (λi h1 h2=>((a6.o ((wr.alloc (.cells #[.slice K t U] 22)).alloc (.cells #[] 22)).drew D3.o).1 i h1 h2).lower (le_ _) s9) (by omega)));(have O9:=H_ a1);(have P9:=H_ (show (wr.heap.size+1)<=(wr.heap.size+1) from le_ _));(have X9:=H_ (L3.o.outside I (by omega)));clear a1 I a5)
     | (refine zbp (by rfl) _ _ 119 (by rfl) 22 () 1 24 underlying119 zab (by rfl) (by decide) (by decide) (by rfl) e3.o (by rfl) X9.o (by intro u hu;simp only[k_] at hu;subst hu;rfl) (by omega) (by simp only[μ];omega) ?_;intro b0 a3 J E a2;(have c6:w9<=a3.heap.size:=J_ (ζ w9 (.cells #[.slice K t U] 22)).size E.size);(have a8:=H_ (ε Y9.o E (by omega) (by simp only[μ];omega)));(have b3:Q_ (LLs lo a3 a3 b0 (ss.take (k)++[.slice K t U]) (xss.take (k)++[t])):=H_ (za9 d8.o a2 (J.wide2 (by omega) (le_ _)) (by rw[Z.o.2.2.1];rfl) (yss:=[t]) rfl (λi h1 h2=>by (have e0:i=0:=by (simp at h1;omega));subst e0;exact((a6.o (w9.alloc (.cells #[.slice K t U] 22)) Y9.o).2.2).lower (le_ _) E.size) (by omega)));(have b4:=H_ J);clear J E a2)
     | (refine zbp (by rfl) _ _ 119 (by rfl) 22 () 1 24 underlying119 zab (by rfl) (by decide) (by decide) (by rfl) O9.o (by rfl) X9.o (by intro u hu;simp only[k_] at hu;subst hu;rfl) (by omega) (by omega) ?_;intro b0 a3 J E a2;(have c6:w9<=a3.heap.size:=J_ (B_ w9 w9).size E.size);(have a8:=H_ (ε J9.o E (by omega) (by omega)));(have b3:Q_ (LLs lo a3 a3 b0 (ss.take (k)++[.slice K t U]) (xss.take (k)++[t])):=H_ (za9 K9.o a2 (J.wide2 (by omega) (le_ _)) (by rw[Z.o.2.2.1];rfl) (yss:=[t]) rfl (λi h1 h2=>by (have e0:i=0:=by (simp at h1;omega));subst e0;exact((a6.o w9 J9.o).2.2).lower (le_ _) E.size) (by omega)));(have b4:=H_ J);clear J E a2)
     | (refine zbp (by rfl) _ _ 119 (by rfl) 22 () 1 24 underlying119 zab (by rfl) (by decide) (by decide) (by rfl) O9.o (by rfl) X9.o (by intro u hu;simp only[k_] at hu;subst hu;rfl) (by omega) (by omega) ?_;intro b0 a3 J E a2;(have c6:w9<=a3.heap.size:=J_ (B_ w9 w9).size E.size);(have a8:=H_ (ε J9.o E (by omega) (by omega)));(have b3:Q_ (LLs lo a3 a3 b0 (ss.take (k)++[.slice K t U]) (xss.take (k)++[t])):=H_ (za9 K9.o a2 (J.wide2 (by omega) (le_ _)) (by rw[Z.o.2.2.1];rfl) (yss:=[t]) rfl (λi h1 h2=>by (have e0:i=0:=by (simp at h1;omega));subst e0;exact((a6.o w9 J9.o).2.2).lower (le_ _) E.size) (by omega)));(have b4:=H_ J);clear J E a2)
     | (refine zbp (by rfl) _ _ 119 (by rfl) 22 () 1 24 underlying119 zab (by rfl) (by decide) (by decide) (by rfl) b4.o (by rfl) (zch d5.o a8.o (by omega)) b1.o.2 (by omega) (by omega) ?_;intro g2 c7 a9 a4 b2;(have d6:=H_ (ε a8.o a4 (by omega) (by omega)));(have d7:=H_ (za9 b3.o b2 (a9.wide2 (by omega) (le_ _)) (by rw[n_,Z.o.2.2.1,Z.o.2.2.2];rfl) Z.o.2.1 (λi h1 h2=>((a6.o a3 a8.o).2.1 i h1 h2).lower (le_ _) a4.size) a4.size));(have d9:=H_ a9);clear a9 a4 b2))
    all_goals (
     obtain⟨b8,b7,b9⟩:=zik d9.o (by simp);subst b9;have HR:=H_ (show Ζ lo c7 (.slice (q_ b8 0) (k+1+(0)) b7) (addL t xss)/\Below w w c7 from ⟨⟨b8,b7,ss.take (k)++[.slice K t U]++ss.drop (k),by rw[n_,n_,Z.o.2.2.1,Z.o.2.2.2];rfl,by rw[HA.o];exact d7.o⟩,b5.o.trans (d6.o.mono e6)⟩);go_wp2;go_ret;exact ι.mk _ rfl HR.o)
   ·rw[m_ hcs]at b6
    (have d5:=H_ b6.o)
    go_region_held3 (λw'=>w'=w'.heap.size) (first | rfl | trivial) (first
     | (refine zbp (by rfl) _ _ 119 (by rfl) 22 () 1 24 underlying119 zab (by rfl) (by decide) (by decide) (by rfl) A1.o (by rfl) F1.o b1.o.1 (by omega) (by omega) ?_;intro v9 w9 a1 I a5;rw[U_,ad_] at a1;(have s9:=I.size);(have J9:=H_ (ε D1.o I (by omega) (by omega)));(have K9:Q_ (LLs lo w9 w9 v9 (ss.take (k)) (xss.take (k))):=H_ (za9 (B1.o.lower (lo':=lo) (by omega) (le_ _)) a5 (a1.wide2 (by omega) (le_ _)) (by rw[Z.o.2.2.1];simp) Z.o.1 (λi h1 h2=>((a6.o (wr.alloc (.cells #[] 22)).drew D1.o).1 i h1 h2).lower (le_ _) s9) (by omega)));(have O9:=H_ a1);(have P9:=H_ (show wr<=wr.heap.size from le_ _));(have X9:Q_ (Sl 1 w9 (w9+1) (w9.alloc (.cells #[.slice K t U] 22)) (.slice (q_ w9 0) 1 1) 1 [.slice K t U]):=H_ (ς 1 22 w9 [.slice K t U] 1 (by omega) rfl).sl);(have Y9:=H_ (J9.o.trans ((ζ w9 (.cells #[.slice K t U] 22)).mono (by omega))));(have e3:=H_ (O9.o.alloc (.cells #[.slice K t U] 22)));(have d8:=H_ (K9.o.below (ζ w9 (.cells #[.slice K t U] 22)) (by omega)));clear a1 I a5)
     | (refine zbp (by rfl) _ _ 119 (by rfl) 22 () 1 24 underlying119 zab (by rfl) (by decide) (by decide) (by rfl) A2.o (by rfl) F2.o b1.o.1 (by omega) (by omega) ?_;intro v9 w9 a1 I a5;rw[U_,ad_] at a1;(have s9:=I.size);(have J9:=H_ (ε D2.o I (by omega) (by omega)));(have K9:Q_ (LLs lo w9 w9 v9 (ss.take (k)) (xss.take (k))):=H_ (za9 (B2.o.lower (lo':=lo) (by omega) (le_ _)) a5 (a1.wide2 (by omega) (le_ _)) (by rw[Z.o.2.2.1];simp) Z.o.1 (λi h1 h2=>((a6.o ((wr.alloc (.cells #[] 22)).alloc (.cells #[.slice K t U] 22)).drew D2.o).1 i h1 h2).lower (le_ _) s9) (by omega)));(have O9:=H_ a1);(have P9:=H_ (show wr<=wr.heap.size from le_ _));(have X9:=H_ (L2.o.outside I (by omega)));clear a1 I a5)
     | (refine zbp (by rfl) _ _ 119 (by rfl) 22 () 1 24 underlying119 zab (by rfl) (by decide) (by decide) (by rfl) A3.o (by rfl) F3.o b1.o.1 (by omega) (by omega) ?_;intro v9 w9 a1 I a5;rw[U_,ad_] at a1;(have s9:=I.size);(have J9:=H_ (ε D3.o I (by omega) (by omega)));(have K9:Q_ (LLs lo w9 w9 v9 (ss.take (k)) (xss.take (k))):=H_ (za9 (B3.o.lower (lo':=lo) (by omega) (le_ _)) a5 (a1.wide2 (by omega) (le_ _)) (by rw[Z.o.2.2.1];simp) Z.o.1 (λi h1 h2=>((a6.o ((wr.alloc (.cells #[.slice K t U] 22)).alloc (.cells #[] 22)).drew D3.o).1 i h1 h2).lower (le_ _) s9) (by omega)));(have O9:=H_ a1);(have P9:=H_ (show (wr.heap.size+1)<=(wr.heap.size+1) from le_ _));(have X9:=H_ (L3.o.outside I (by omega)));clear a1 I a5)
     | (refine zbp (by rfl) _ _ 119 (by rfl) 22 () 1 24 underlying119 zab (by rfl) (by decide) (by decide) (by rfl) e3.o (by rfl) X9.o (by intro u hu;simp only[k_] at hu;subst hu;rfl) (by omega) (by simp only[μ];omega) ?_;intro b0 a3 J E a2;(have c6:w9<=a3.heap.size:=J_ (ζ w9 (.cells #[.slice K t U] 22)).size E.size);(have a8:=H_ (ε Y9.o E (by omega) (by simp only[μ];omega)));(have b3:Q_ (LLs lo a3 a3 b0 (ss.take (k)++[.slice K t U]) (xss.take (k)++[t])):=H_ (za9 d8.o a2 (J.wide2 (by omega) (le_ _)) (by rw[Z.o.2.2.1];rfl) (yss:=[t]) rfl (λi h1 h2=>by (have e0:i=0:=by (simp at h1;omega));subst e0;exact((a6.o (w9.alloc (.cells #[.slice K t U] 22)) Y9.o).2.2).lower (le_ _) E.size) (by omega)));(have b4:=H_ J);clear J E a2)
     | (refine zbp (by rfl) _ _ 119 (by rfl) 22 () 1 24 underlying119 zab (by rfl) (by decide) (by decide) (by rfl) O9.o (by rfl) X9.o (by intro u hu;simp only[k_] at hu;subst hu;rfl) (by omega) (by omega) ?_;intro b0 a3 J E a2;(have c6:w9<=a3.heap.size:=J_ (B_ w9 w9).size E.size);(have a8:=H_ (ε J9.o E (by omega) (by omega)));(have b3:Q_ (LLs lo a3 a3 b0 (ss.take (k)++[.slice K t U]) (xss.take (k)++[t])):=H_ (za9 K9.o a2 (J.wide2 (by omega) (le_ _)) (by rw[Z.o.2.2.1];rfl) (yss:=[t]) rfl (λi h1 h2=>by (have e0:i=0:=by (simp at h1;omega));subst e0;exact((a6.o w9 J9.o).2.2).lower (le_ _) E.size) (by omega)));(have b4:=H_ J);clear J E a2)
     | (refine zbp (by rfl) _ _ 119 (by rfl) 22 () 1 24 underlying119 zab (by rfl) (by decide) (by decide) (by rfl) O9.o (by rfl) X9.o (by intro u hu;simp only[k_] at hu;subst hu;rfl) (by omega) (by omega) ?_;intro b0 a3 J E a2;(have c6:w9<=a3.heap.size:=J_ (B_ w9 w9).size E.size);(have a8:=H_ (ε J9.o E (by omega) (by omega)));(have b3:Q_ (LLs lo a3 a3 b0 (ss.take (k)++[.slice K t U]) (xss.take (k)++[t])):=H_ (za9 K9.o a2 (J.wide2 (by omega) (le_ _)) (by rw[Z.o.2.2.1];rfl) (yss:=[t]) rfl (λi h1 h2=>by (have e0:i=0:=by (simp at h1;omega));subst e0;exact((a6.o w9 J9.o).2.2).lower (le_ _) E.size) (by omega)));(have b4:=H_ J);clear J E a2)
     | (refine zbp (by rfl) _ _ 119 (by rfl) 22 () 1 24 underlying119 zab (by rfl) (by decide) (by decide) (by rfl) b4.o (by rfl) (zch d5.o a8.o (by omega)) b1.o.2 (by omega) (by omega) ?_;intro g2 c7 a9 a4 b2;(have d6:=H_ (ε a8.o a4 (by omega) (by omega)));(have d7:=H_ (za9 b3.o b2 (a9.wide2 (by omega) (le_ _)) (by rw[n_,Z.o.2.2.1,Z.o.2.2.2];rfl) Z.o.2.1 (λi h1 h2=>((a6.o a3 a8.o).2.1 i h1 h2).lower (le_ _) a4.size) a4.size));(have d9:=H_ a9);clear a9 a4 b2))
    all_goals (
     obtain⟨b8,b7,b9⟩:=zik d9.o (by simp);subst b9;have HR:=H_ (show Ζ lo c7 (.slice (q_ b8 0) (k+1+(ss.length-k)) b7) (addL t xss)/\Below w w c7 from ⟨⟨b8,b7,ss.take (k)++[.slice K t U]++ss.drop (k),by rw[n_,n_,Z.o.2.2.1,Z.o.2.2.2];rfl,by rw[HA.o];exact d7.o⟩,b5.o.trans (d6.o.mono e6)⟩);go_wp2;go_ret;exact ι.mk _ rfl HR.o)
theorem Ζ.go(h:Ζ lo w v xss)(hb:Below w w w'):Ζ lo w' v xss:=by
 obtain⟨g,cap,ss,rfl,h1⟩:=h;exact⟨g,cap,ss,rfl,(h1.below hb (le_ _)).lower (le_ _) hb.size⟩
theorem Ζ.low(h:Ζ lo w v xss)(hl:lo'<=lo):Ζ lo' w v xss:=by
 obtain⟨g,cap,ss,rfl,h1⟩:=h;exact⟨g,cap,ss,rfl,h1.lower hl (le_ _)⟩
theorem Ζ.shape(h:Ζ lo w v xss):∃ g cap,v=.slice (q_ g 0) xss cap:=by
 obtain⟨g,cap,ss,rfl,h1⟩:=h;exact⟨g,cap,by rw[h1.2.1]⟩
theorem Ζ.shapeN(h:Ζ lo w v xss):∃ g n cap,v=.slice (q_ g 0) n cap:=by
 obtain⟨g,cap,ss,rfl,h1⟩:=h;exact⟨g,_,cap,rfl⟩
theorem Ζ.sl(h:Ζ lo w v xss):zbi lo w w v xss:=by
 obtain⟨g,cap,ss,rfl,h1⟩:=h;exact h1.sl
theorem Ζ.at(h:Ζ lo w (.slice (q_ g 0) n cap) xss)(i:Nat)(hi:i<xss.length):
  ∃ u,g<w/\w.cell? (p_ g i)=some u/\γ lo w 3 w u xss[i]:=by
 obtain⟨K,E,ss,e,h1⟩:=h;injection e with e1 I J;injection e1 with e1;injection e1 with e1;subst e1 I J;obtain⟨K,e,_,_,hg,hc,hu⟩:=h1.at i (by rw[h1.2.1];exact hi) hi;injection e with e;injection e with e;subst e;exact⟨_,hg,hc,hu⟩
theorem zk0(lo:Nat)(v vt:Value)(xss:List (List Int))(t:List Int)(w:World)(hx:Ζ lo w v xss)(ht:γ lo w 3 w vt t)(hl:lo<=w)(hm:xss.length<=100000)(E:∀ x∈xss,x.length<=16777216)(I:t.length<=16777216):
  Calls prog 191 #[v,vt] w (ι λv w'=>Ζ lo w' v (addL t xss)/\Below w w w'):=by
 obtain⟨g,cap,ss,rfl,h1⟩:=hx;exact z1o lo w _ cap g vt ss xss t w h1 ht hl (le_ _) (by rw[h1.2.1];exact hm) E I
theorem zqe(lo hi lo' hi':Nat)(va vb:Value)(xs ys:List Int)(w:World)(hx:SlI lo hi w va xs)(hy:SlI lo' hi' w vb ys)(hh:hi<=w)(b1:hi'<=w)(hm:xs.length+ys.length<=4000000):
  Calls prog 192 #[va,vb] w (ι λv w'=>Below w w w'/\γ w w' 3 w' v (behV xs ys)):=by
 have HX:=H_ hx;have HY:=H_ hy;have⟨w0,J⟩:=xa_ w #[(15:Int)] 3;have Z:Below w w w0:=by rw[J];exact ζ _ _
 have b2:w0=w.heap.size+1:=by rw[J];simp
 have HL:Q_ (SlI w w0 w0 (.slice (q_ w 0) 1 1) [15]):=H_ (by
  have h:=(ς 1 3 w (δ [15]) 1 (by omega) rfl).sl;rw[b2,J];exact h)
 have a3:=H_ (hx.below Z hh);have a2:=H_ Z;have HW:=H_ J;obtain⟨aa,ac,rfl,_,_⟩:=π hx;obtain⟨ba,bc,rfl,_,_⟩:=π hy;clear hx hy Z J
 go_enter func192,ntmps192
 go_wp2_with (rw[<-HW.o])
 refine(zjt _ _ _ _ _ _ xs [15] w0 a3.o HL.o (by omega) (by simp)).mono ?_;rintro e1 w1 ⟨rfl,a1⟩;have hs1:=a1.size;have U:=a2.tr a1 (by omega);have a9:=H_ (HX.o.below U.o hh);have a4:=H_ (HY.o.below U.o b1);clear a1 HW HL a3 a2;cases E:eqL xs [15]
 ·have HE:=H_ (show behV xs ys=xs++ys++[19] by unfold behV;rw[m_ (λh=>by rw[h,zhu] at E;cases E)])
  clear E;go_wp2_with fail
  refine(zaj _ _ _ _ _ _ xs ys 19 w1 a9.o a4.o (by omega) (by omega) (by omega)).mono ?_;rintro e2 w2 ⟨v2,rfl,hb2,a5⟩;have HR:=H_ (show Below w w w2/\γ w w2 3 w2 v2 (behV xs ys) from ⟨U.o.trans (hb2.mono (by omega)),by rw[HE.o];exact a5.lower (by omega) (le_ _)⟩);clear hb2 a5;go_wp2;go_ret;exact ι.mk _ rfl HR.o
 ·have HE:=H_ (show behV xs ys=ys by unfold behV;rw[x_ (by rw[zed] at E;exact av_ E)])
  have H0:Q_ (Own 1 w1 (w1+1) 3 (w1.alloc (.cells #[] 3)) (.slice (q_ w1 0) 0 0) 0 (δ [])):=H_ (ς 1 3 w1 (δ []) 0 (by omega) rfl);have⟨w2,K⟩:=xa_ w1 #[] 3;have hb2:Below w1 w1 w2:=by rw[K];exact ζ _ _
  have hs2:w2=w1.heap.size+1:=by rw[K];simp
  have b0:=H_ (a4.o.below hb2 (by omega));have a7:=U.tr hb2 (by omega);have a8:=H_ K;rw[<-K]at H0;clear E K hb2;go_wp2_with (at_builtin;go_loud (rw[<-a8.o];refine Μ rfl _ _ 22 rfl 3 (0:Int) 1 8 underlying22 ω rfl (by decide) (by decide) rfl H0.o rfl b0.o (Ι _) ?c1 ?c2 ?_))
  case c1=>omega
  case c2=>omega
  intro v3 w3 a6 _ I _
  have HR:=H_ (show Below w w w3/\γ w w3 3 w3 v3 (behV xs ys) from ⟨ε a7.o I (by omega) (by omega),by
   rw[HE.o];exact(γ.len (xs:=ys) (by simpa [δ] using a6) (by simp)).lower (by omega) (le_ _)⟩)
  clear a6 I;go_wp2;go_ret;exact ι.mk _ rfl HR.o
def ze5(t:KT):Prop:=∀ (lo hi:Nat) (v:Value) (w:World) (α:Nat) (c:Int),SlI lo hi w v t.post->t.ok 0=true->t.size<=1700->α<4->16<=c->c<=18->hi<=w ->
 Calls prog 160 #[v,.int .i64 α,.int .i64 c] w (ι λv w'=>Ζ w w' v (partsV t α c)/\Below w w w')
theorem zgl {t:KT}(ht:t.ok 0=true)(hs:t.size<=1700){α:Nat}{c:Int}(hc:16<=c):(∀ x∈partsV t α c,x.length<=2900000)/\(partsV t α c).length<=1700:=
 ⟨λx hx=>J_ (partsV_short ht hc hx) (J_ (bk_ hs (show t.size+1<=1701 by omega)) (by decide)),J_ (partsV_len ht hc) hs⟩
theorem zkm {ts:List (List Int)}(hk:k<ts.length):addsL l (ts.take (k+1))=addL ts[k] (addsL l (ts.take k)):=by rw[F_ hk,addsL_snoc]
theorem zj9 {ts:List (List Int)}(k:Nat)(h1:l.length<=5000)(h2:ts.length<=5000):(addsL l (ts.take k)).length<=100000:=by
 have h:=addsL_len (ts.take k) l;have h3:(ts.take k).length<=ts.length:=by rw[am_];omega
 omega
theorem zjy {ts:List (List Int)}(k:Nat)(h1:∀ x∈l,x.length<=n)(h2:∀ x∈ts,x.length<=n):∀ x∈addsL l (ts.take k),x.length<=n:=by
 intro x hx;rcases addsL_mem.1 hx with hx|hx
 ·exact h1 x hx
 ·exact h2 x (a7_ hx)
theorem zfj(lo:Nat)(w:World)(hl:lo<=w):Ζ lo (w.alloc (.cells #[] 22)) (.slice (q_ w 0) 0 0) []:=⟨_,0,[],rfl,by rw[μ];exact zff lo w hl⟩
theorem zzd(n:Int):ze5 (.leaf n):=by
 intro lo hi v w α c hx a4 hs hα a8 b6 hh;simp only[KT.ok,j_,t_]at a4;obtain⟨b7,b0⟩:=a4;obtain⟨a,cap,rfl,_,_⟩:=π hx;obtain⟨b,off,rfl,J,hb2,b5,hcell⟩:=hx.get 0 (by simp[KT.post]);have a8:w.cell? (p_ b off)=some (.int .i64 n):=hcell;have hlen:(KT.leaf n).post.length=1:=rfl;rw[hlen];clear hx hlen hcell;have HZ:=H_ (zfj w w (le_ _));have a5:=H_ (ζ w (.cells #[] 22));by_cases he:n=c
 ·have hd:(n==c)=true:=by simp[he]
  have HE:=H_ (show partsV (.leaf n) α c=[[15]] by unfold partsV;rw[x_ he]);have⟨w1,E⟩:=ex_ ((w.alloc (.cells #[] 22)).alloc (.cells #[(15:Int)] 3));have hs1:w1=w.heap.size+2:=by rw[E];simp
  have J:Below w w w1:=by rw[E];exact(ζ _ _).trans ((ζ _ _).mono (by simp))
  have Z:Q_ (LLs w w1 w1 (.slice (q_ w 0) 0 0) [] []):=H_ (by
   have h:=(zff w w (le_ _)).below (ζ (w.alloc (.cells #[] 22)) (.cells #[(15:Int)] 3)) (by rw[μ];exact le_ _);rw[<-E]at h;exact h.lower (le_ _) (by omega))
  have a7:Q_ (γ w w1 3 w1 (.slice (q_ (w+1) 0) 1 1) [15]):=H_ (by
   have h:=ς 1 3 (w.alloc (.cells #[] 22)) (δ [15]) 1 (by omega) rfl;rw[μ]at h;rw[hs1,E];exact(γ.len h rfl).lower (by omega) (by omega))
  have a6:=H_ J;have a1:=H_ E;have I:=H_ hs1;clear E J he hs1
  go_enter func160,ntmps160
  go_wp2_with (at_builtin;go_loud (refine zbn w1 rfl _ _ 119 rfl 22 () 1 24 underlying119 zab rfl (by decide) (by decide) rfl Z.o.1 1 [.slice (q_ (w+1) 0) 1 1] (by rw[I.o];rfl) rfl (by intro u hu;simp only[k_] at hu;subst hu;rfl) (by rw[a1.o]) ?c1 ?c2 ?_))
  case c1=>simp
  case c2=>rw[I.o];omega
  intro v2 w2 U K a3 _;rw[<-a1.o]at K;have HJ:=H_ (zga Z.o a7.o U K);have b3:=H_ a3;obtain⟨a2,c2,rfl⟩:=η U;have b2:=HJ.o.2.size;have b1:=I.o
  obtain⟨g2,rfl⟩:∃ g,a2=some ⟨g,0,none⟩:=by
   rcases HJ.o.1.1.1.2 with⟨e,h0⟩|⟨g,a9,b4,e,_⟩
   ·exact absurd h0 (by simp)
   ·injection e with e;exact⟨g,e⟩
  have HR:=H_ (show Ζ w w2 (.slice (q_ g2 0) 1 c2) (partsV (.leaf n) α c)/\Below w w w2 from ⟨⟨g2,c2,_,rfl,by rw[HE.o];exact HJ.o.1⟩,ε a6.o HJ.o.2 (le_ _) (by omega)⟩);clear U K a3;go_wp2;go_ret;exact ι.mk _ rfl HR.o
 ·have hd:(n==c)=false:=by simp[he]
  have HE:=H_ (show partsV (.leaf n) α c=[] by unfold partsV;rw[m_ he]);clear he
  go_enter func160,ntmps160
  go_wp2;go_ret;exact ι.mk _ rfl ⟨by rw[HE.o];exact HZ.o,a5.o⟩
theorem zy7 {x y:KT}(b8:ze5 x)(b9:ze5 y):ze5 (.bin true x y):=by
 intro lo hi v w α c hx b7 hs hα U b6 hh;simp only[KT.ok,j_]at b7;obtain⟨Z,J⟩:=b7;simp only[KT.size]at hs;have hlen:(KT.bin true x y).post.length=x.size+y.size+1:=by rw[zaz];rfl
 have I:=H_ (show ∀ w1,Below w w w1->Calls prog 156 #[v] w1 (zir λa b w2=>Below w1.heap.size w1 w2/\SlI lo hi w2 a x.post/\SlI lo hi w2 b y.post) from λw1 e3=>
  (zg4 lo hi v 0 true x y w1 (hx.below e3 hh) (by omega) J).mono (by rintro e w2 ⟨va,vb,rfl,⟨m,rfl⟩,ha,hb⟩;exact⟨va,vb,rfl,ai_ (B_ _ _) m,ha,hb⟩))
 obtain⟨a,cap,rfl,_,e6⟩:=π hx;obtain⟨b,off,rfl⟩:=hx.notNil (by omega);obtain⟨b',e9,e,_,_,e4,hc⟩:=hx.get (x.size+y.size) (by omega);injection e with e;injection e with e1 e2;subst e1 e2
 have hc0:w.cell? (p_ b (off+(x.size+y.size)))=some (.int .i64 20):=by
  rw[hc];simp[KT.post,<-zaz,KT.op]
 rw[hlen]at I ⊢;have d8:=H_ b8;have d9:=H_ b9;obtain⟨b4,e7⟩:=zgl Z (by omega) (α:=α) U;obtain⟨b5,e8⟩:=zgl J (by omega) (α:=α) U;have a9:=H_ b4;have a2:=H_ b5;have a3:=H_ (partsV_or x y α c);have⟨pa,a6⟩:=ex_ (partsV x α c);have⟨pb,a7⟩:=ex_ (partsV y α c);have d5:=H_ a6;have d6:=H_ a7;rw[<-a6]at e7 a9 a3;rw[<-a7]at e8 a2 a3;have⟨w0,E⟩:=xa_ w #[] 22;have a4:Below w w w0:=by rw[E];exact ζ _ _
 have f4:w0=w.heap.size+1:=by rw[E];simp
 have HZ:=H_ (show Ζ w w0 (.slice (q_ w 0) 0 0) [] by rw[E];exact zfj w w (le_ _));have a8:=H_ a4;have e5:(w.alloc (.cells #[] 22)).cell? (p_ b (off+(x.size+y.size)))=some (.int .i64 20):=by rw[<-E];exact(a4.cell (p:=p_ b (off+(x.size+y.size))) e4).trans hc0
 have b2:=H_ E;clear b8 b9 hx e6 hc b4 b5 a6 a7 E a4
 go_enter func160,ntmps160
 go_wp2_with (rw[<-b2.o])
 refine(I.o w0 a8.o).mono ?_;rintro e w1 ⟨va,vb,rfl,h_,ha,hb⟩;have hs1:=h_.size;have c7:=a8.tr h_ (by omega);have b3:=H_ (HZ.o.go h_);have b0:=H_ ha;have d7:=H_ hb;obtain⟨aa,ac,rfl,_,_⟩:=π ha;obtain⟨ba,bc,rfl,_,_⟩:=π hb;clear h_ ha hb I hc0 e5 b2;go_wp2_with fail
 refine(d8.o lo hi _ w1 α c b0.o Z (by omega) hα U b6 (by omega)).mono ?_;rintro e w2 ⟨v2,rfl,h2,hb2⟩;rw[<-d5.o]at h2;have hs2:=hb2.size;have c8:=c7.tr hb2 (by omega);have f2:=H_ (b3.o.go hb2);have b1:=H_ (d7.o.below hb2 (by omega));have H2:=H_ (h2.low (show w<=w1.heap.size by omega));obtain⟨g2,c2,rfl⟩:=h2.shape;clear h2 hb2 b0 b3;go_wp2_with fail
 refine(d9.o lo hi _ w2 α c b1.o J (by omega) hα U b6 (by omega)).mono ?_;rintro e w3 ⟨v3,rfl,h3,K⟩;rw[<-d6.o]at h3;have f5:=K.size;have c9:=c8.tr K (by omega);have c6:=H_ (H2.o.go K);have H3:=H_ (h3.low (show w<=w2.heap.size by omega));obtain⟨g3,c3,rfl⟩:=h3.shape;clear h3 K;go_wp2;go_loopw [9,13] (λo i wr=>∃ k:Nat,k<=pb.length/\i=.int .i64 k/\Q_ (Ζ w wr o (addsL pa (pb.take k)))/\Q_ (Below w w wr/\Below w3 w3 wr)) (λ_ i _=>pb.length-(intOf i).toNat)
 case atStart=>exact⟨0,by omega,rfl,c6,H_ ⟨c9.o,B_ _ _⟩⟩
 case round=>
  rename World=>wr
  obtain⟨k,hk,rfl,HQ,HB⟩:=hrel;obtain⟨g4,n4,c4,rfl⟩:=HQ.o.shapeN;have a1:=HB.o.1.size;by_cases hlt:k<pb.length
  ·obtain⟨u,hg,f3,hu⟩:=(H3.o.go HB.o.2).at k hlt
   have HU:=H_ hu;obtain⟨ua,uc,rfl⟩:=η hu;have d4:=H_ (zkm (l:=pa) hlt);clear hu;go_wp2_with fail
   refine(zk0 _ _ _ _ pb[k] wr HQ.o HU.o a1 (zj9 k (by omega) (by omega)) (λz hz=>by have:=zjy k a9.o a2.o z hz;omega) (by have:=a2.o _ (u_ hlt);omega)).mono ?_;rintro e w5 ⟨v5,rfl,h5,a5⟩;rw[<-d4.o]at h5;have H5:=H_ h5;have d3:=H_ (show Below w w w5/\Below w3 w3 w5 from ⟨HB.o.1.trans (a5.mono a1),HB.o.2.trans (a5.mono HB.o.2.size)⟩);clear h5 a5;go_wp2;go_roundw
   case rel=>exact⟨k+1,by omega,by go_num,H5,d3⟩
   case measure=>simp[intOf];omega
  ·obtain rfl:k=pb.length:=by omega
   have HR:=H_ (show Ζ w wr (.slice (q_ g4 0) n4 c4) (partsV (.bin true x y) α c) from by
    have h:=HQ.o;rw[Y_]at h;rw[a3.o];exact h)
   go_wp2;go_ret;exact ι.mk _ rfl ⟨HR.o,HB.o.1⟩
theorem zyc {x y:KT}(f7:ze5 x)(f8:ze5 y):ze5 (.bin false x y):=by
 intro lo hi v w α c hx f5 hs hα b1 f3 hh;simp only[KT.ok,j_]at f5;obtain⟨K,a6⟩:=f5;simp only[KT.size]at hs;have hlen:(KT.bin false x y).post.length=x.size+y.size+1:=by rw[zaz];rfl
 have a2:=H_ (show ∀ w1,Below w w w1->Calls prog 156 #[v] w1 (zir λa b w2=>Below w1.heap.size w1 w2/\SlI lo hi w2 a x.post/\SlI lo hi w2 b y.post) from λw1 j0=>
  (zg4 lo hi v 0 false x y w1 (hx.below j0 hh) (by omega) a6).mono (by rintro e w2 ⟨va,vb,rfl,⟨m,rfl⟩,ha,hb⟩;exact⟨va,vb,rfl,ai_ (B_ _ _) m,ha,hb⟩))
 obtain⟨a,cap,rfl,_,j8⟩:=π hx;obtain⟨b,off,rfl⟩:=hx.notNil (by omega);obtain⟨b',k8,e,_,_,j6,hc⟩:=hx.get (x.size+y.size) (by omega);injection e with e;injection e with e1 e2;subst e1 e2
 have hc0:w.cell? (p_ b (off+(x.size+y.size)))=some (.int .i64 19):=by
  rw[hc];simp[KT.post,<-zaz,KT.op]
 rw[hlen]at a2 ⊢;have i8:=H_ f7;have i9:=H_ f8;obtain⟨b7,k5⟩:=zgl K (by omega) (α:=α) b1;obtain⟨f2,k6⟩:=zgl a6 (by omega) (α:=α) b1;have d9:=H_ b7;have b4:=H_ f2;have b0:=H_ (partsV_seq x y α c)
 have a8:Q_ (∀ z∈(partsV x α c).map λq=>behV q y.post,z.length<=2910000):=H_ (by
  intro z hz;obtain⟨q,hq,rfl⟩:=aa_.1 hz;have:=b7 q hq;have l8:=y.post_length;unfold behV
  split
  ·omega
  ·simp;omega)
 have e5:Q_ ((ordL ((partsV x α c).map λq=>behV q y.post)).length<=5000):=H_ (by
  have h:=addsL_len ((partsV x α c).map λq=>behV q y.post) [];rw[X_]at h
  show (addsL [] _).length<=5000
  simp only[an_]at h;omega)
 have e4:Q_ (∀ z∈ordL ((partsV x α c).map λq=>behV q y.post),z.length<=2910000):=H_ (λz hz=>a8.o z (ordL_mem.1 hz));have⟨E,c9⟩:=ex_ (partsV x α c);have⟨Z,d3⟩:=ex_ (partsV y α c);have h8:=H_ c9;have h9:=H_ d3;rw[<-c9]at k5 d9 b0 a8 e5 e4;rw[<-d3]at k6 b4 b0;have⟨w0,a1⟩:=xa_ w #[] 22;have b8:Below w w w0:=by rw[a1];exact ζ _ _
 have l5:w0=w.heap.size+1:=by rw[a1];simp
 have HZ:=H_ (show Ζ w w0 (.slice (q_ w 0) 0 0) [] by rw[a1];exact zfj w w (le_ _));have d6:=H_ b8;have j7:(w.alloc (.cells #[] 22)).cell? (p_ b (off+(x.size+y.size)))=some (.int .i64 19):=by rw[<-a1];exact(b8.cell (p:=p_ b (off+(x.size+y.size))) j6).trans hc0
 have e8:=H_ a1;clear f7 f8 hx j8 hc b7 f2 c9 d3 a1 b8
 go_enter func160,ntmps160
 go_wp2_with (rw[<-e8.o])
 refine(a2.o w0 d6.o).mono ?_;rintro e w1 ⟨va,vb,rfl,h_,ha,hb⟩;have hs1:=h_.size;have f9:=d6.tr h_ (by omega);have e9:=H_ (HZ.o.go h_);have b6:=H_ ha;have i5:=H_ hb;obtain⟨aa,ac,rfl,_,_⟩:=π ha;obtain⟨ba,bc,rfl,_,_⟩:=π hb;clear h_ ha hb a2 hc0 j7 e8;go_wp2_with fail
 refine(i8.o lo hi _ w1 α c b6.o K (by omega) hα b1 f3 (by omega)).mono ?_;rintro e w2 ⟨v2,rfl,h2,hb2⟩;rw[<-h8.o]at h2;have hs2:=hb2.size;have g6:=f9.tr hb2 (by omega);have i7:=H_ (e9.o.go hb2);have b2:=H_ (i5.o.below hb2 (by omega));have e7:=H_ (b6.o.below hb2 (by omega));have H2:=H_ (h2.low (show w<=w1.heap.size by omega));obtain⟨g2,c2,rfl⟩:=h2.shape;clear h2 hb2 b6 e9;go_wp2;go_loopw [9,17] (λo i wr=>∃ k:Nat,k<=E.length/\i=.int .i64 k/\Q_ (Ζ w wr o (addsL [] ((E.map λq=>behV q y.post).take k)))/\Q_ (Below w w wr/\Below w2 w2 wr)) (λ_ i _=>E.length-(intOf i).toNat)
 case atStart=>exact⟨0,by omega,rfl,i7,H_ ⟨g6.o,B_ _ _⟩⟩
 case round=>
  rename World=>wr
  obtain⟨k,hk,rfl,HQ,HB⟩:=hrel;obtain⟨g4,n4,c4,rfl⟩:=HQ.o.shapeN;have U:=HB.o.1.size;have a7:=HB.o.2.size;by_cases hlt:k<E.length
  ·obtain⟨u,hg,c7,hu⟩:=(H2.o.go HB.o.2).at k hlt
   have HU:=H_ hu;obtain⟨ua,uc,rfl⟩:=η hu;have f4:k<(E.map λq=>behV q y.post).length:=by rw[X_];exact hlt
   have a9:=H_ (zkm (l:=[]) f4);rw[bq_]at a9;have k9:=d9.o _ (u_ hlt);have i0:=H_ y.post_length;have k4:y.post.length<=1700:=by rw[i0.o];omega
   clear hu;go_wp2_with fail
   refine(zqe _ _ _ _ _ _ E[k] y.post wr HU.o.sl (b2.o.below HB.o.2 (by omega)) (le_ _) (by omega) (by omega)).mono ?_;rintro e w4 ⟨v4,rfl,a4,c8⟩;have l7:=a4.size;have g9:=H_ (c8.lower U (le_ _));have i2:=H_ (HQ.o.go a4);have d8:=H_ (show Below w w w4/\Below w2 w2 w4 from ⟨HB.o.1.trans (a4.mono U),HB.o.2.trans (a4.mono a7)⟩);obtain⟨za,zc,rfl⟩:=η c8;clear a4 c8;go_wp2_with fail
   refine(zk0 _ _ _ _ (behV E[k] y.post) w4 i2.o g9.o (by omega) (zj9 k (by simp) (by rw[X_];omega)) (λz hz=>by have:=zjy k (n:=2910000) (l:=[]) (by simp) a8.o z hz;omega) (by have:=a8.o _ (aa_.2 ⟨_,u_ hlt,rfl⟩);omega)).mono ?_;rintro e w5 ⟨v5,rfl,h5,b9⟩;rw[<-a9.o]at h5;have H5:=H_ h5;have g7:=H_ (show Below w w w5/\Below w2 w2 w5 from ⟨d8.o.1.trans (b9.mono (by omega)),d8.o.2.trans (b9.mono (by omega))⟩);clear h5 b9;go_wp2;go_roundw
   case rel=>exact⟨k+1,by omega,by go_num,H5,g7⟩
   case measure=>simp[intOf];omega
  ·obtain rfl:k=E.length:=by omega
   have e6:=H_ (show Ζ w wr (.slice (q_ g4 0) n4 c4) (ordL (E.map λq=>behV q y.post)) from by
    (have h:=HQ.o;have e:(E.map λq=>behV q y.post).take E.length=E.map λq=>behV q y.post:=ay_ (by simp));rw[e]at h;exact h)
   clear HQ;go_wp2_with fail
   refine(i9.o lo hi _ wr α c (b2.o.below HB.o.2 (by omega)) a6 (by omega) hα b1 f3 (by omega)).mono ?_;rintro e w3 ⟨v3,rfl,h3,a3⟩;rw[<-h9.o]at h3;have l6:=a3.size;have d7:=H_ (show Below w w w3/\Below w2 w2 w3 from ⟨HB.o.1.trans (a3.mono U),HB.o.2.trans (a3.mono a7)⟩);have d5:=H_ (e6.o.go a3);have H3:=H_ (h3.low U);obtain⟨g3,c3,rfl⟩:=h3.shape;clear h3 a3 e6;go_wp2;go_loopw [9,19] (λo i wx=>∃ k:Nat,k<=Z.length/\i=.int .i64 k/\Q_ (Ζ w wx o (addsL (ordL (E.map λq=>behV q y.post)) ((if (endsK x).testBit α then Z else []).take k)))/\Q_ (Below w w wx/\Below w3 w3 wx)) (λ_ i _=>Z.length-(intOf i).toNat)
   case atStart=>exact⟨0,by omega,rfl,H_ (by obtain⟨g,cc,e⟩:=d5.o.shape;exact d5.o),H_ ⟨d7.o.1,B_ _ _⟩⟩
   case round=>
    rename World=>wx
    obtain⟨k,hk,rfl,HQ,I⟩:=hrel;obtain⟨g5,n5,c5,rfl⟩:=HQ.o.shapeN;have f6:=I.o.1.size;have d4:=I.o.2.size;by_cases hlt:k<Z.length
    ·(obtain⟨u,hg,c7,hu⟩:=(H3.o.go I.o.2).at k hlt);(have HU:=H_ hu;obtain⟨ua,uc,rfl⟩:=η hu;have i6:=H_ (e7.o.below (d7.o.2.trans (I.o.2.mono (by omega))) (by omega));clear hu;go_wp2_with fail);refine(zl3 x lo hi _ wx i6.o K (by omega) (by omega)).mono ?_;rintro e w6 ⟨rfl,J⟩;have j9:=J.size;have b3:=H_ (show Below w w w6/\Below w3 w3 w6 from ⟨I.o.1.trans (J.mono f6),I.o.2.trans (J.mono d4)⟩);have b5:=H_ (HQ.o.go J);have i4:=H_ ((HU.o.below J (le_ _)).lower (le_ _) j9);have k7:w6.cell? (p_ g3 k)=some (.slice ua Z[k].length uc):=(J.cell (p:=p_ g3 k) hg).trans c7;have l0:=zeg K;clear J c7 HQ;go_wp2_with fail
     refine(zgs (endsK x) α (by omega) (by omega) w6).mono ?_;rintro e _ ⟨rfl,rfl⟩;cases hbit:(endsK x).testBit α
     ·(have a5:zaw (endsK x) α=0:=by simp[zaw,hbit]);rw[a5]
      have HR:=H_ (show Ζ w w6 (.slice (q_ g5 0) n5 c5) (partsV (.bin false x y) α c) from by
       (have h:=b5.o;rw[b0.o];rw[hbit]at h ⊢);simpa [addsL_nil] using h)
      clear hbit a5;go_wp2;go_ret;exact ι.mk _ rfl ⟨HR.o,b3.o.1⟩
     ·(have a5:zaw (endsK x) α=1:=by simp[zaw,hbit]);rw[a5];have e3:=H_ (show (if (endsK x).testBit α then Z else [])=Z by rw[hbit,x_ rfl]);have a9:=H_ (zkm (l:=ordL (E.map λq=>behV q y.post)) hlt)
      have i3:=H_ (show Ζ w w6 (.slice (q_ g5 0) n5 c5) (addsL (ordL (E.map λq=>behV q y.post)) (Z.take k)) from by
       have h:=b5.o;rw[e3.o]at h;exact h)
      clear hbit a5 b5;go_wp2_with fail
      refine(zk0 _ _ _ _ Z[k] w6 i3.o i4.o (by omega) (zj9 k e5.o (by omega)) (λz hz=>by have:=zjy k (n:=2910000) e4.o (λz hz=>by have:=b4.o z hz;omega) z hz;omega) (by have:=b4.o _ (u_ hlt);omega)).mono ?_;rintro e w7 ⟨v7,rfl,h7,c6⟩;rw[<-a9.o]at h7;have H7:=H_ (show Ζ w w7 v7 (addsL (ordL (E.map λq=>behV q y.post)) ((if (endsK x).testBit α then Z else []).take (k+1))) from by rw[e3.o];exact h7);have g8:=H_ (show Below w w w7/\Below w3 w3 w7 from ⟨b3.o.1.trans (c6.mono (by omega)),b3.o.2.trans (c6.mono (by omega))⟩);clear h7 c6;go_wp2;go_roundw
      (case rel=>exact⟨k+1,by omega,by go_num,H7,g8⟩);case measure=>simp[intOf];omega
    ·(obtain rfl:k=Z.length:=by omega)
     have HR:=H_ (show Ζ w wx (.slice (q_ g5 0) n5 c5) (partsV (.bin false x y) α c) from by
      (have h:=HQ.o;have e:(if (endsK x).testBit α then Z else []).take Z.length=if (endsK x).testBit α then Z else []:=ay_ (by split<;>simp));rw[e]at h;rw[b0.o];exact h)
     go_wp2;go_ret;exact ι.mk _ rfl ⟨HR.o,I.o.1⟩
theorem zyd {x:KT}(b5:ze5 x):ze5 (.star x):=by
 intro lo hi v w α c hx d9 hs hα b3 d5 hh;have U:x.ok 0=true:=d9;simp only[KT.size]at hs;have hlen:(KT.star x).post.length=x.size+1:=by rw[zaz];rfl
 obtain⟨a,cap,rfl,d6,d8⟩:=π hx;obtain⟨b,off,rfl⟩:=hx.notNil (by omega);obtain⟨b',e5,e,_,_,d4,hc⟩:=hx.get x.size (by omega);injection e with e;injection e with e1 e2;subst e1 e2
 have hc0:w.cell? (p_ b (off+x.size))=some (.int .i64 21):=by
  rw[hc];simp[KT.post,<-zaz]
 have c8:Q_ (SlI lo hi w (.slice (q_ b off) x.size cap) x.post):=H_ (by
  have h2:=hx.sub 0 x.size (aw_ _) (by omega)
  simpa [KT.post,<-zaz] using h2)
 have HX:=H_ hx;have e9:(KT.star x).post.length<=1700:=by omega
 rw[hlen]at d6 HX ⊢;have e4:x.size<=cap:=by omega
 have d3:=H_ b5;obtain⟨a2,e3⟩:=zgl U (by omega) (α:=α) b3;have a8:=H_ a2;have b0:=H_ (partsV_star x α c)
 have a1:Q_ (∀ z∈(partsV x α c).map λq=>behV q (KT.star x).post,z.length<=2910000):=H_ (by
  intro z hz;obtain⟨q,hq,rfl⟩:=aa_.1 hz;have:=a2 q hq;unfold behV
  split
  ·omega
  ·simp only[n_,cs_];omega)
 have⟨J,a5⟩:=ex_ (partsV x α c);have c6:=H_ a5;rw[<-a5]at e3 a8 b0 a1;have⟨w0,E⟩:=xa_ w #[] 22;have K:Below w w w0:=by rw[E];exact ζ _ _
 have f2:w0=w.heap.size+1:=by rw[E];simp
 have HZ:=H_ (show Ζ w w0 (.slice (q_ w 0) 0 0) [] by rw[E];exact zfj w w (le_ _));have b6:=H_ K;have b1:=H_ (c8.o.below K hh);have d7:(w.alloc (.cells #[] 22)).cell? (p_ b (off+x.size))=some (.int .i64 21):=by rw[<-E];exact(K.cell (p:=p_ b (off+x.size)) d4).trans hc0
 have b2:=H_ E;have e6:=H_ hlen;unfold maxLen at d8;clear b5 hx hc a2 a5 E K hlen
 go_enter func160,ntmps160
 go_wp2_with (rw[<-b2.o])
 refine(d3.o lo hi _ w0 α c b1.o U (by omega) hα b3 d5 (by omega)).mono ?_;rintro e w2 ⟨v2,rfl,h2,hb2⟩;rw[<-c6.o]at h2;have hs2:=hb2.size;have b7:=b6.tr hb2 (by omega);have c9:=H_ (HZ.o.go hb2);have H2:=H_ (h2.low (show w<=w0.heap.size by omega));obtain⟨g2,c2,rfl⟩:=h2.shape;clear h2 hb2 HZ hc0 d7 b2;go_wp2;go_loopw [9,21] (λo i wr=>∃ k:Nat,k<=J.length/\i=.int .i64 k/\Q_ (Ζ w wr o (addsL [] ((J.map λq=>behV q (KT.star x).post).take k)))/\Q_ (Below w w wr/\Below w2 w2 wr)) (λ_ i _=>J.length-(intOf i).toNat)
 case atStart=>exact⟨0,by omega,rfl,c9,H_ ⟨b7.o,B_ _ _⟩⟩
 case round=>
  rename World=>wr
  obtain⟨k,hk,rfl,HQ,HB⟩:=hrel;obtain⟨g4,n4,c4,rfl⟩:=HQ.o.shapeN;have Z:=HB.o.1.size;have a6:=HB.o.2.size;by_cases hlt:k<J.length
  ·obtain⟨u,hg,e8,hu⟩:=(H2.o.go HB.o.2).at k hlt
   have HU:=H_ hu;obtain⟨ua,uc,rfl⟩:=η hu;have b4:k<(J.map λq=>behV q (KT.star x).post).length:=by rw[X_];exact hlt
   have a9:=H_ (zkm (l:=[]) b4);rw[bq_]at a9;have e7:=a8.o _ (u_ hlt);clear hu;go_wp2_with fail
   refine(zqe _ _ _ _ _ _ J[k] (KT.star x).post wr HU.o.sl (HX.o.below HB.o.1 hh) (le_ _) (by omega) (by omega)).mono ?_;rintro e w4 ⟨v4,rfl,I,a4⟩;have f3:=I.size;have b9:=H_ (a4.lower Z (le_ _));have c7:=H_ (HQ.o.go I);have a7:=H_ (show Below w w w4/\Below w2 w2 w4 from ⟨HB.o.1.trans (I.mono Z),HB.o.2.trans (I.mono a6)⟩);obtain⟨za,zc,rfl⟩:=η a4;clear I a4;go_wp2_with fail
   refine(zk0 _ _ _ _ (behV J[k] (KT.star x).post) w4 c7.o b9.o (by omega) (zj9 k (by simp) (by rw[X_];omega)) (λz hz=>by have:=zjy k (n:=2910000) (l:=[]) (by simp) a1.o z hz;omega) (by have:=a1.o _ (aa_.2 ⟨_,u_ hlt,rfl⟩);omega)).mono ?_;rintro e w5 ⟨v5,rfl,h5,a3⟩;rw[<-a9.o]at h5;have H5:=H_ h5;have b8:=H_ (show Below w w w5/\Below w2 w2 w5 from ⟨a7.o.1.trans (a3.mono (by omega)),a7.o.2.trans (a3.mono (by omega))⟩);clear h5 a3;go_wp2;go_roundw
   case rel=>exact⟨k+1,by omega,by go_num,H5,b8⟩
   case measure=>simp[intOf];omega
  ·obtain rfl:k=J.length:=by omega
   have HR:=H_ (show Ζ w wr (.slice (q_ g4 0) n4 c4) (partsV (.star x) α c) from by
    (have h:=HQ.o;have e:(J.map λq=>behV q (KT.star x).post).take J.length=J.map λq=>behV q (KT.star x).post:=ay_ (by simp));rw[e]at h;rw[b0.o];exact h)
   go_wp2;go_ret;exact ι.mk _ rfl ⟨HR.o,HB.o.1⟩
theorem zf8:∀ t:KT,ze5 t
 | .leaf n=>zzd n
 | .bin true a b=>zy7 (zf8 a) (zf8 b)
 | .bin false a b=>zyc (zf8 a) (zf8 b)
 | .star a=>zyd (zf8 a)
theorem zz3(hk:k<l.length)(h:x ∉ l.take k)(he:l[k]≠x):x ∉ l.take (k+1):=by
 rw[F_ hk,E_,k_];rintro(h1|h1)
 ·exact h h1
 ·exact he h1.symm
theorem zrp(lo hi lo' hi':Nat)(v vx:Value)(xss:List (List Int))(x:List Int)(w:World)(hl:zbi lo hi w v xss)(hx:SlI lo' hi' w vx x)(hh:hi<=w)(a2:hi'<=w)(hm:xss.length<=1048576)(U:∀ y∈xss,y.length<=16777216)(a4:x.length<=16777216):
  c_ 161 #[v,vx] w (decide (x∈xss)):=by
 have HL:=H_ hl;have HX:=H_ hx;have Z:=H_ U;obtain⟨a,cap,rfl,_,_⟩:=hl.shape;obtain⟨xa,xc,rfl,_,_⟩:=π hx;clear hl hx U
 go_enter func161,ntmps161
 go_wp2;go_loopw [5] (λi wr=>∃ k:Nat,k<=xss.length/\i=.int .i64 k/\Q_ (Below w w wr)/\Q_ (x ∉ xss.take k)) (λi _=>xss.length-(intOf i).toNat)
 case atStart=>exact⟨0,by omega,rfl,H_ (B_ _ _),H_ (by simp)⟩
 case round=>
  rename World=>wr
  obtain⟨k,hk,rfl,HB,HN⟩:=hrel;have a5:=HB.o.size;by_cases hlt:k<xss.length
  ·obtain⟨b5,a6,u5,rfl,_,_,_,a7,I⟩:=(HL.o.below HB.o hh).get k hlt
   obtain⟨ua,uc,rfl,_,_⟩:=π I;have HU:=H_ I;have a3:=Z.o _ (u_ hlt);clear I;go_wp2_with fail
   refine(zjt _ _ _ _ _ _ xss[k] x wr HU.o (HX.o.below HB.o a2) a3 a4).mono ?_;rintro e1 w1 ⟨rfl,K⟩;have J:=HB.tr K a5;clear K;cases E:eqL xss[k] x
   ·(have a1:=H_ (zz3 hlt HN.o (λh=>by rw[h,zhu] at E;cases E)));clear E;go_wp2;go_roundw
    (case rel=>exact⟨k+1,by omega,by go_num,J,a1⟩);case measure=>simp[intOf];omega
   ·have HY:=H_ (show true=decide (x∈xss) by
     rw[zed]at E;rw[<-of_decide_eq_true E];simp)
    clear E;go_wp2;go_ret;exact⟨χ HY.o,J.o⟩
  ·obtain rfl:k=xss.length:=by omega
   have HY:=H_ (show false=decide (x∈xss) by
    have h:=HN.o;rw[Y_]at h;simp[h])
   go_wp2;go_ret;exact⟨χ HY.o,HB.o⟩
theorem Ζ.app {ys:List Int}(h:LLs lo w w (.slice (q_ g 0) ss cap) ss xss)(hs:γ lo w 3 w s ys)
  (ho:Own 1 lo w' 22 w' v' (ss.length+1) (ss++[s])) (hg:(w.alloc (.cells #[s] 22)).grownBy w' (Value.slice (q_ g 0) ss cap).ownBlock):Ζ lo w' v' (xss++[ys])/\β lo w w w':=by
 have E:=zga h hs ho hg;obtain⟨I,c2,rfl⟩:=zik ho (by simp);exact⟨⟨I,c2,ss++[s],by rw[n_];rfl,E.1⟩,E.2⟩
theorem LLs.beside {pv:Value} {sp:List Value} {ps o:List (List Int)}(E:LLs lo' w w v ss o)(hp:LLs lo hi w pv sp ps)(I:hi<=w)(hd:pv.ownBlock=none\/pv.ownBlock≠v.ownBlock)
  (hg:(w.alloc (.cells #[s] 22)).grownBy w' v.ownBlock) (hl:v'.ownBlock=v.ownBlock\/v'.ownBlock=some (w.alloc (.cells #[s] 22)).heap.size) :
  LLs lo hi w' pv sp ps/\(pv.ownBlock=none\/pv.ownBlock≠v'.ownBlock):=by
 have hk:=ζ w (.cells #[s] 22);refine⟨LLs.far (hp.below hk I) (E.1.below hk (le_ _)) hg hd,?_⟩;rcases hl with e|e
 ·rw[e];exact hd
 ·rw[e]
  cases hb:pv.ownBlock with
  | none=>exact .inl rfl
  | some g=>
   right
   have:=(hp.1.1.lt g hb).2;have hz:(w.alloc (.cells #[s] 22)).heap.size=w.heap.size+1:=μ _ _;simp;omega
theorem z1s(lo hi:Nat)(v:Value)(t0:KT)(w:World)(hx:SlI lo hi w v t0.post)(hh:hi<=w)(j8:t0.ok 0=true)(a5:t0.size<=40):
  Calls prog 190 #[v] w (ι λv w'=>Ζ w w' v (allV t0.post)/\Below w w w'):=by
 obtain⟨a,cap,rfl,l7,m5⟩:=π hx;have g9:=H_ (AllI.one (P:=Cl t0) (t:=t0) (au_ ..));have HK:=H_ (Cl.kept j8);have i4:=H_ t0.post_length;have m8:t0.post.length<=40:=by rw[i4.o];exact a5
 have⟨w0,a6⟩:=xa_ w #[] 3;have c9:Below w w w0:=by rw[a6];exact ζ _ _
 have n0:w0=w.heap.size+1:=by rw[a6];simp
 have H0:Q_ (Own 1 w (w+1) 3 w0 (.slice (q_ w 0) 0 0) 0 (δ [])):=H_ (by rw[a6];exact ς 1 3 w (δ []) 0 (by omega) rfl);have j0:=H_ (hx.below c9 hh);have h8:=H_ c9;have f9:=H_ a6;clear hx a6 c9
 go_enter func190,ntmps190
 go_wp2_with (at_builtin;go_loud (rw[<-f9.o];refine Μ rfl _ _ 22 rfl 3 (0:Int) 1 8 underlying22 ω rfl (by decide) (by decide) rfl H0.o rfl j0.o (Ι _) ?c1 ?c2 ?_))
 case c1=>omega
 case c2=>omega
 intro v1 w1 d4 _ U _;have n2:=U.size;have c6:γ w w1 3 w1 v1 t0.post:=γ.len (xs:=t0.post) (by simpa [δ] using d4) (by simp);have hH:=LLs.one c6 (by omega);have H1:=H_ (show Ζ w (w1.alloc (.cells #[v1] 22)) (.slice (q_ w1 0) 1 1) [t0.post] from ⟨_,1,[v1],rfl,by rw[μ];exact hH⟩);have h9:=H_ (show Below w w (w1.alloc (.cells #[v1] 22)) from (ε h8.o U (le_ _) (by omega)).trans ((ζ _ _).mono (by omega)));obtain⟨oa,oc,rfl⟩:=η d4;clear d4 U c6 hH f9;go_wp2;go_loopw [3,4] (λv i wr=>∃ (k:Nat) (o:List (List Int)),k<=o.length/\o.length<=41/\i=.int .i64 k/\Q_ (Ζ w wr v o/\Below w w wr/\allGo (60-k) k o=allV t0.post/\AllI (Cl t0) o)) (λ_ i _=>60-(intOf i).toNat)
 case atStart=>exact⟨0,[t0.post],by simp,by simp,rfl,H_ ⟨H1.o,h9.o,rfl,g9.o⟩⟩
 case round=>
  rename World=>wr
  obtain⟨k,o,hk,m2,rfl,HQ⟩:=hrel;have m0:=HQ.o.2.1.size;obtain⟨og,oc,rfl⟩:=HQ.o.1.shape;by_cases hlt:k<o.length
  ·have HT:=H_ (AllI.tree HK.o HQ.o.2.2.2 hlt)
   have⟨t,ht⟩:=ex_ (Τ (o.getD k []));rw[<-ht]at HT;have i7:=H_ (Cl.size HT.o.1 a5);have f7:=H_ (HK.o.ok HT.o.1);have f2:=H_ (show o[k]=t.post from by rw[HT.o.2,List.getD,l_ hlt];rfl);have b0:=H_ (λm (hm:m<=12)=>AllI.row HK.o HQ.o.2.2.2 HT.o.1 hm);have f4:=H_ (λm (hm:m<=12)=>(b0.o m hm).len a5)
   have i5:=H_ (show allGo (60-(k+1)) (k+1) (rowL o t 12)=allV t0.post from by
    have h:=HQ.o.2.2.1;rw[show 60-k=(60-(k+1))+1 by omega,allGo_more hlt,<-ht]at h;exact h)
   have i6:=H_ HT.o.1
   have f5:=H_ (show ∀ m,m<=12->∃ h:k<(rowL o t m).length,(rowL o t m)[k]=t.post from λm _=>by
    (obtain⟨r,hr⟩:=rowL_pre o t m;have a4:k<(rowL o t m).length:=by rw[hr,n_];omega);exact⟨a4,by rw[c6_ hr,aq_ hlt];exact f2.o⟩)
   have e2:=H_ (show Ζ w wr (.slice (q_ og 0) o oc) (rowL o t 0)/\Below w w wr from ⟨HQ.o.1,HQ.o.2.1⟩);clear f2 ht HQ HT;go_wp2;go_loopw [3,5] (λv i wx=>∃ α:Nat,α<=4/\i=.int .i64 α/\Q_ (Ζ w wx v (rowL o t (3*α))/\Below w w wx)) (λ_ i _=>4-(intOf i).toNat)
   case atStart=>exact⟨0,by omega,rfl,e2⟩
   case round=>
    clear e2
    rename World=>o1
    obtain⟨α,hα,rfl,E⟩:=hrel;obtain⟨pg,pc,j9⟩:=E.o.1.shape;subst j9;by_cases a4:α<4
    ·(have m6:decide ((α:Int)<=3)=true:=by simp;omega);go_wp2;go_loopw [3,6] (λv i wx=>∃ j:Nat,j<=3/\i=.int .i64 (16+(j:Int))/\Q_ (Ζ w wx v (rowL o t (3*α+j))/\Below w w wx)) (λ_ i _=>19-(intOf i).toNat)
     case atStart=>exact⟨0,by omega,rfl,E⟩
     case round=>
      clear E
      rename World=>wx
      obtain⟨j,hj,rfl,E⟩:=hrel;obtain⟨rg,rc,k8⟩:=E.o.1.shape;subst k8;by_cases l8:j<3
      ·(have m7:decide ((16:Int)+(j:Int)<=18)=true:=by simp;omega);(have l5:=E.o.2.size;obtain⟨j7,g3⟩:=f5.o (3*α+j) (by omega);have k7:=f4.o (3*α+j) (by omega);obtain⟨u5,_,m3,b5⟩:=E.o.1.at k j7;rw[g3]at b5;have i8:=H_ b5;obtain⟨n6,n7,rfl⟩:=η b5;have n1:=i7.o)
       have i2:=H_ (show ∀ y∈rowL o t (3*α+j),y.length<=16777216 from λy hy=>by
        obtain⟨q,k4,k5⟩:=(b0.o (3*α+j) (by omega)).mem y hy;rw[<-k5,q.post_length];have:=Cl.size k4 a5;omega)
       clear b5 g3;go_wp2_with fail
       refine(zf8 t _ _ _ wx α (16+(j:Int)) i8.o.sl f7.o (by omega) a4 (by omega) (by omega) (le_ _)).mono ?_;rintro e3 w3 ⟨v3,rfl,g2,Z⟩;have n3:=Z.size;obtain⟨a2,d8⟩:=zgl f7.o (by omega) (α:=α) (c:=16+(j:Int)) (by omega)
       have a7:=H_ (show moveP t (3*α+j)=partsV t α (16+(j:Int)) by
        unfold moveP;rw[show (3*α+j)/3=α by omega,show (3*α+j)%3=j by omega])
       (have⟨ps,g4⟩:=ex_ (partsV t α (16+(j:Int)));rw[<-g4]at g2 a7 d8 a2;have e5:=H_ a2;clear g4 a2;obtain⟨gp,cp,sp,rfl,h3⟩:=g2;have b1:=H_ h3.2.1;have l9:sp.length<=1700:=by rw[b1.o];exact d8);(obtain⟨n9,n8,o0,k6,g8⟩:=E.o.1;injection k6 with J g5 g7;injection J with J;injection J with J;subst J g7;have d9:=H_ (show Ζ w w3 (.slice (q_ rg 0) (rowL o t (3*α+j)).length rc) (rowL o t (3*α+j))/\Below w w w3 from ⟨E.o.1.go Z,E.o.2.trans (Z.mono l5)⟩);have H3:=H_ h3)
       have a1:Q_ ((Value.slice (q_ gp 0) sp cp).ownBlock=none\/(Value.slice (q_ gp 0) sp cp).ownBlock≠(Value.slice (q_ rg 0) (rowL o t (3*α+j)).length rc).ownBlock):=H_ (by
        right
        intro e;have h1:=(h3.1.1.lt gp rfl).1;have h2:=(g8.1.1.lt rg rfl).2;simp only[Value.ownBlock,ar_]at e;omega)
       (have e9:=H_ (show ∀ n,AllI (Cl t0) (newL (rowL o t (3*α+j)) (ps.take n)) from λn=>AllI.new (b0.o _ (by omega)) λx hx=>moveP_kept HK.o i6.o (m:=3*α+j) (by omega) x (by rw[a7.o];exact a7_ hx));clear h3 Z E g8 g5 d8;go_wp2;go_loopw [3,8] (λv i wy=>∃ n:Nat,n<=sp.length/\i=.int .i64 n/\Q_ ((Ζ w wy v (newL (rowL o t (3*α+j)) (ps.take n))/\Below w w wy)/\LLs wx w3 wy (.slice (q_ gp 0) sp cp) sp ps/\((Value.slice (q_ gp 0) sp cp).ownBlock=none\/(Value.slice (q_ gp 0) sp cp).ownBlock≠v.ownBlock)/\w3<=wy.heap.size)) (λ_ i _=>sp.length-(intOf i).toNat));case atStart=>exact⟨0,by omega,rfl,H_ ⟨d9.o,H3.o,a1.o,le_ _⟩⟩
       case round=>
        clear d9 H3 a1
        rename World=>wy
        (obtain⟨n,hn,rfl,E⟩:=hrel;obtain⟨qg,qc,b8,rfl,hq⟩:=E.o.1.1;have c8:=H_ hq;have c7:=H_ hq.2.1;have l6:b8.length<=41:=by rw[c7.o];exact(e9.o n).len a5);clear hq;by_cases b9:n<sp.length
        ·(have b4:n<ps.length:=by rw[<-b1.o];exact b9);(have n5:=E.o.2.2.2;have l0:=E.o.1.2.size;have a8:=H_ (newL_snoc ps[n] (ps.take n) (rowL o t (3*α+j)));obtain⟨g6,e6,_,_,j6,d3,d7⟩:=E.o.2.1.at n b9 b4;injection e6 with e6;injection e6 with e6;subst e6;have f8:=H_ d7;obtain⟨b6,b7,d6⟩:=η d7;rw[d6]at d3;have f6:=H_ d6;have m9:=e5.o _ (u_ b4);clear d6 d7;go_wp2_with fail);refine(zrp _ _ _ _ _ _ _ ps[n] wy c8.o.sl (by rw[<-f6.o];exact f8.o.sl) (le_ _) (by omega) (by rw[<-c7.o];omega) (λy hy=>?_) (by omega)).mono ?_
         ·rcases newL_mem.1 hy with hy|hy
          ·exact i2.o y hy
          ·have:=e5.o y (a7_ hy);omega
         rintro e7 w7 ⟨rfl,K⟩;have k9:=K.size;have a9:=H_ ((c8.o.below K (le_ _)).lower (le_ _) k9);have f3:=H_ (E.o.2.1.below K (by omega));have i9:=H_ (f8.o.below K (by omega));have e4:=H_ (E.o.1.2.trans (K.mono l0));have a1:=H_ E.o.2.2.1;have m4:w7.cell? (p_ gp n)=some (.slice b6 ps[n].length b7):=(K.cell (p:=p_ gp n) j6).trans d3;clear K E d3;by_cases I:ps[n]∈newL (rowL o t (3*α+j)) (ps.take n)
         ·(have a3:decide (ps[n]∈newL (rowL o t (3*α+j)) (ps.take n))=true:=by simp[I]);(have HE:Q_ (newL (rowL o t (3*α+j)) (ps.take (n+1))=newL (rowL o t (3*α+j)) (ps.take n)):=H_ (by rw[F_ b4,a8.o,x_ I]);clear I a8;rw[a3];clear a3;go_wp2;go_roundw);(case rel=>exact⟨n+1,by omega,by go_num,H_ ⟨⟨by rw[HE.o];exact⟨qg,qc,b8,rfl,a9.o⟩,e4.o⟩,f3.o,a1.o,by omega⟩⟩);case measure=>simp[intOf];omega
         ·(have a3:decide (ps[n]∈newL (rowL o t (3*α+j)) (ps.take n))=false:=by simp[I]);(have HE:Q_ (newL (rowL o t (3*α+j)) (ps.take (n+1))=newL (rowL o t (3*α+j)) (ps.take n)++[ps[n]]):=H_ (by rw[F_ b4,a8.o,m_ I]);clear I a8;rw[a3];clear a3;go_wp2_with (at_builtin;go_loud (refine zbn w7 rfl _ _ 119 rfl 22 () 1 24 underlying119 zab rfl (by decide) (by decide) rfl a9.o.1 1 [.slice b6 ps[n].length b7] rfl rfl (by intro u hu;simp only[k_] at hu;subst hu;rfl) rfl ?c1 ?c2 ?_)));case c1=>omega
          case c2=>omega
          intro v8 w8 d5 b2 b3 _;replace b3:v8.ownBlock=(Value.slice (q_ qg 0) b8 qc).ownBlock\/v8.ownBlock=some (w7.alloc (.cells #[.slice b6 ps[n].length b7] 22)).heap.size:=by rw[μ];exact b3
          (have HJ:=H_ (Ζ.app a9.o (by rw[<-f6.o];exact i9.o.lower (by omega) (by omega)) d5 b2);have e8:=H_ (LLs.beside a9.o f3.o (by omega) a1.o b2 b3);have n4:=b2.size;have m1:(w7.alloc (.cells #[.slice b6 ps[n].length b7] 22)).heap.size=w7.heap.size+1:=μ _ _;have i0:=H_ (ε e4.o HJ.o.2 (le_ _) (by omega));obtain⟨y8,o2,rfl⟩:=η d5;clear d5 b2 b3;go_wp2;go_roundw);(case rel=>exact⟨n+1,by omega,by go_num,H_ ⟨⟨by rw[HE.o];exact HJ.o.1,i0.o⟩,e8.o.1,e8.o.2,by omega⟩⟩);case measure=>simp[intOf];omega
        ·(obtain rfl:n=sp.length:=by omega)
         have h7:=H_ (show Ζ w wy (.slice (q_ qg 0) b8 qc) (rowL o t (3*α+(j+1)))/\Below w w wy from by
          have h:=E.o.1;rw[b1.o,Y_,<-a7.o]at h;exact h)
         clear E e9 b1 a7 c8 c7;go_wp2;go_roundw
         (case rel=>exact⟨j+1,by omega,by go_num,h7⟩);case measure=>simp[intOf];omega
      ·(obtain rfl:j=3:=by omega);go_wp2;go_roundw
       (case rel=>exact⟨α+1,by omega,by go_num,E⟩);case measure=>simp[intOf];omega
    ·(obtain rfl:α=4:=by omega)
     have i3:=H_ (show k+1<=(rowL o t 12).length from by
      obtain⟨h,_⟩:=f5.o 12 (le_ _);omega)
     go_wp2;go_roundw
     (case rel=>exact⟨k+1,_,i3.o,f4.o 12 (le_ _),by go_num,H_ ⟨E.o.1,E.o.2,i5.o,b0.o 12 (le_ _)⟩⟩);case measure=>simp[intOf];omega
  ·obtain rfl:k=o.length:=by omega
   have HE:=H_ (show o=allV t0.post from by
    (have h:=HQ.o.2.2.1)
    rwa [show 60-o.length=(59-o.length)+1 by omega,allGo_done (le_ _)]at h)
   go_wp2;go_ret;exact ι.mk _ rfl ⟨by rw[<-HE.o];exact HQ.o.1,HQ.o.2.1⟩
def zcz(e:List Int):List (List Int):=if ν e then allV e else []
theorem zte(lo hi:Nat)(v:Value)(es:List Int)(w:World)(hx:SlI lo hi w v es)(hm:es.length<=1048576)(U:hi<=w):
  Calls prog 159 #[v] w (ι λv w'=>Ζ w w' v (zcz es)/\Below w w w'):=by
 obtain⟨a,cap,rfl,_,_⟩:=π hx;have I:=H_ hx;clear hx;cases hk:ν es with
 | true=>
  obtain⟨t,h1,h2,_,h4⟩:=zex hk;have E:=H_ (show zcz es=allV t.post by rw[zcz,hk,x_ rfl,h2]);have J:=H_ (z1s lo hi (.slice a es cap) t w (by rw[h2];exact I.o) U h1 h4);clear h1 h2 h4
  go_enter func159,ntmps159
  go_wp2_with fail
  refine(zag _ _ _ es _ I.o (by omega)).mono ?_;rintro e w1 ⟨rfl,rfl⟩;rw[hk];clear hk;go_wp2_with fail
  refine J.o.mono ?_;rintro e w2 ⟨v2,rfl,h2,hb⟩;rw[<-E.o]at h2;have K:=H_ (a_ h2 hb);obtain⟨Z,c2,rfl⟩:=h2.shape;clear hb h2;go_wp2;go_ret;exact ι.mk _ rfl K.o
 | false=>
  have E:=H_ (show zcz es=[] by rw[zcz,hk];rfl)
  go_enter func159,ntmps159
  go_wp2_with fail
  refine(zag _ _ _ es _ I.o (by omega)).mono ?_;rintro e w1 ⟨rfl,rfl⟩;rw[hk];clear hk;go_wp2;go_ret;exact ι.mk _ rfl ⟨by rw[E.o];exact zfj _ _ (le_ _),ζ _ _⟩
structure AUE(g:Nat)(w3 wr:World)(L:List (List Int))(k:Nat)(va vb:Value)(ss:List Value)(x:List Int):Prop where
 blk:Blk g (.cells #[va,vb] 123) wr
 ends:γ w3 wr 3 wr va ((L.take k).map endL++[endL x])
 next:LLs w3 wr wr vb ss ((L.take k).map (nextL L))
 far:∀ u∈ss,u.ownBlock=none\/u.ownBlock≠va.ownBlock
 o:β g (g+1) w3 wr
theorem AUE.go {wx:World}(h:AUE g w3 wr L k va vb ss x)(hb:Below wr wr wx):AUE g w3 wx L k va vb ss x:=
 ⟨h.blk.below hb h.blk.lt,(h.ends.below hb (le_ _)).lower (le_ _) hb.size,(h.next.below hb (le_ _)).lower (le_ _) hb.size,h.far,h.o.trans (β.of_below hb (le_ _))⟩
theorem AUI.endsE {w7 w9:World} {v9:Value}(h:AUI g w3 w7 L k va vb ss)(hg:g+1<=w3.heap.size)(hk:k<=L.length)
  (ho:Own 1 w3 w9 3 w9 v9 (k+1) (δ ((L.take k).map endL)++[.int .i64 (endL x)])) (E:(w7.alloc (.cells #[.int .i64 (endL x)] 3)).grownBy w9 va.ownBlock)
  (hl:v9.ownBlock=va.ownBlock\/v9.ownBlock=some (w7.alloc (.cells #[.int .i64 (endL x)] 3)).heap.size):AUE g w3 (w9.setCell (p_ g 0) v9) L k v9 vb ss x:=by
 have ha:=ζ w7 (.cells #[.int .i64 (endL x)] 3);have hz:(w7.alloc (.cells #[.int .i64 (endL x)] 3)).heap.size=w7.heap.size+1:=μ _ _;have Z:=E.size;have I:=β.put g 0 w9 v9;have K:=I.size;have h1:=h.go ha;have U:=h.o.size;have J:=zb1 E h1.ends.lt;refine⟨?_,?_,⟨?_,h.next.2.1,λi p1 p2=>?_⟩,λu hu=>?_,?_⟩
 ·exact(h1.blk.outside J (by omega)).put 0 v9
 ·have:=(show Own 1 w3 w9 3 w9 v9 (k+1) (δ ((L.take k).map endL++[endL x])) by rw[zaa];exact ho)
  exact(γ.len this (by simp;omega)).outside I (.inr hg) |>.lower (le_ _) K
 ·exact(((h1.next.1.keep E (zlj h1.next.1 h1.ends (by decide))).outside I (.inr hg))).wide2 (le_ _) (by omega)
 ·exact(((h1.next.2.2 i p1 p2).keep E (h.far _ (u_ p1))).outside I (.inr hg)).wide2 (le_ _) (by omega)
 ·rcases hl with e|e
  ·rw[e];exact h.far u hu
  ·obtain⟨i,hi,rfl⟩:=ax_ hu
   rw[e];cases hb:ss[i].ownBlock with
   | none=>exact .inl rfl
   | some j=>
    right
    have:=(h.next.2.2 i hi (by rw[<-h.next.2.1];exact hi)).2 j hb;simp;omega
 ·exact(h1.o.fresh J (le_ _)).trans I
theorem AUE.row {wa:World} {row:Value}(h:AUE g w3 wa L k va vb ss x)(hb:Below wa wa wr)(hr:γ wa wr 3 wr row (nextL L x)):AUH g w3 wr L k va vb ss row x:=by
 have h1:=h.go hb;have hs:=h.o.size;refine⟨h1.blk,h1.ends,h1.next,h1.far,hr.lower hs (le_ _),?_,h1.o⟩;cases E:row.ownBlock with
 | none=>exact .inl rfl
 | some j=>
  right
  intro e;have h2:=(hr.1.lt j E);have h3:=h.ends.2 j e.symm;omega
noncomputable def zdl(L:List (List Int))(x:List Int)(m:Nat):List Int:=(List.range m).map λm=>((setL L x m:Nat):Int)
theorem zus(L:List (List Int))(x:List Int)(m:Nat):zdl L x (m+1)=zdl L x m++[((setL L x m:Nat):Int)]:=by
 unfold zdl;rw[List.range_succ,by_];rfl
theorem ziy(L:List (List Int))(x:List Int)(m:Nat):(zdl L x m).length=m:=by simp[zdl]
noncomputable def zeq(L:List (List Int))(x:List Int)(m j:Nat):Nat:=bitsN j λi=>L.getD i []∈moveP (Τ x) m
theorem zxt(hj:j<L.length)(h:L[j]∈moveP (Τ x) m):zeq L x m (j+1)=zeq L x m j+2 ^ j:=by
 unfold zeq;rw[bitsN,x_]
 rwa [show L.getD j []=L[j] by simp[List.getD,l_ hj]]
theorem zyh(hj:j<L.length)(h:L[j] ∉ moveP (Τ x) m):zeq L x m (j+1)=zeq L x m j:=by
 unfold zeq;rw[bitsN,m_]
 ·rfl
 ·rwa [show L.getD j []=L[j] by simp[List.getD,l_ hj]]
theorem zo1(L:List (List Int))(x:List Int)(m j:Nat):zeq L x m j<2 ^ j:=bitsN_lt _ _
end Go.Proofs.YtfnnhimopokpnaaGreatDoor
