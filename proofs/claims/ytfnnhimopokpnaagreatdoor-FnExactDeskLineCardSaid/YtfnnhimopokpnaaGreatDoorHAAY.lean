/- Lemmas for this seat; no condition. -/
import Derived.Test.YtfnnhimopokpnaaGreatDoorHAAX
namespace Go.Proofs.YtfnnhimopokpnaaGreatDoor
open Go.RowKit
set_option maxRecDepth 100000
set_option maxHeartbeats 0
set_option linter.unusedVariables false
theorem addL_at {t:List Int}:∀ {k:Nat} {l:List (List Int)},k≤l.length→(∀ j (_:j<k) (h2:j<l.length),ltL l[j] t=true)→addL t l=l.take k++addL t (l.drop k)
 | 0,l,_,_=>by simp
 | k+1,[],h,_=>by simp at h
 | k+1,x :: r,h,hj=>by
  have h0:=hj 0 (by omega) (by simp)
  simp only [List.getElem_cons_zero] at h0
  rw [addL,if_pos h0,List.take_succ_cons,List.drop_succ_cons,List.cons_append]
  rw [addL_at (k:=k) (by simpa using h) fun j h1 h2=>by have h3:=hj (j+1) (by omega) (by simp;omega);rwa [List.getElem_cons_succ] at h3]
theorem addL_end {t:List Int} {l:List (List Int)} (h:∀ j (_:j<l.length) (h2:j<l.length),ltL l[j] t=true):addL t l=l.take l.length++[t]++l.drop l.length:=by
 rw [addL_at (le_ _) h]
 simp [addL]
theorem addL_has {t:List Int} {k:Nat} {l:List (List Int)} (hk:k<l.length) (h:∀ j (_:j<k) (h2:j<l.length),ltL l[j] t=true) (he:l[k]=t):addL t l=l:=by
 rw [addL_at (Nat.le_of_lt hk) h,List.drop_eq_getElem_cons hk,addL,he,ltL_irr]
 rw [if_neg (by simp),if_pos rfl]
 conv=>rhs;rw [←List.take_append_drop k l,List.drop_eq_getElem_cons hk,he]
theorem addL_put {t:List Int} {k:Nat} {l:List (List Int)} (hk:k<l.length) (h:∀ j (_:j<k) (h2:j<l.length),ltL l[j] t=true) (hn:ltL l[k] t=false) (he:l[k]≠t):addL t l=l.take k++[t]++l.drop k:=by
 rw [addL_at (Nat.le_of_lt hk) h,List.drop_eq_getElem_cons hk,addL,hn,if_neg (by simp),if_neg he]
 simp
theorem LLs.fore {lo hi n cap g:Nat} {w:World} {ss:List Value} {xss:List (List Int)} (h:LLs lo hi w (.slice (some ⟨g,0,none⟩) n cap) ss xss) (k:Nat) (hk:k≤ss.length):Sl 1 lo hi w (.slice (some ⟨g,0,none⟩) k cap) k (ss.take k):=by
 obtain ⟨a,c,e,h1,h2,h3,h4,h5⟩:=h.1.sl
 injection e with e1 e2 e3
 subst e1 e2 e3
 refine ⟨_,_,rfl,by omega,h2,by simp;omega,h4,fun i hi'=>?_⟩
 rw [List.length_take] at hi'
 obtain ⟨b,off,f1,f2,f3,f4,f5⟩:=h5 i (by omega)
 exact ⟨b,off,f1,f2,f3,f4,by rw [f5,List.getElem?_take,if_pos (by omega)]⟩
theorem LLs.back {lo hi n cap g:Nat} {w:World} {ss:List Value} {xss:List (List Int)} (h:LLs lo hi w (.slice (some ⟨g,0,none⟩) n cap) ss xss) (k:Nat) (hk:k≤ss.length):Sl 1 lo hi w (.slice (if cap=k then some ⟨g,0,none⟩ else some ⟨g,k,none⟩) (ss.length-k) (cap-k)) (ss.length-k) (ss.drop k):=by
 obtain ⟨a,c,e,h1,h2,h3,h4,h5⟩:=h.1.sl
 injection e with e1 e2 e3
 subst e1 e2 e3
 unfold maxLen at h2
 split
 ·rename_i hc
  have h0:ss.length-k=0:=by omega
  rw [List.drop_of_length_le (by omega),h0]
  exact ⟨_,_,rfl,Nat.zero_le _,by unfold maxLen;omega,rfl,(fun h=>by cases h),fun i hi'=>by simp at hi'⟩
 ·refine ⟨_,_,rfl,by omega,by unfold maxLen;omega,by simp,(fun h=>by cases h),fun i hi'=>?_⟩
  rw [List.length_drop] at hi'
  obtain ⟨b,off,f1,f2,f3,f4,f5⟩:=h5 (k+i) (by omega)
  injection f1 with f1
  injection f1 with f1 f1'
  subst f1 f1'
  refine ⟨_,_,rfl,f2,f3,f4,?_⟩
  rw [List.getElem?_drop,←f5,Nat.zero_add]
theorem own_some {lo hi e n:Nat} {w:World} {v:Value} {xs:List Value} (h:Own 1 lo hi e w v n xs) (h0:xs≠[]):∃ g cap,v=.slice (some ⟨g,0,none⟩) n cap:=by
 rcases h.1.2 with ⟨e1,h1⟩|⟨g,cap',cur,e1,_⟩
 ·have:=h.1.1
  rw [h1] at this
  simp at this
  exact absurd this h0
 ·exact ⟨g,cap',e1⟩
theorem LLs.zero (lo:Nat) (w:World) (hl:lo≤w.heap.size):LLs lo (w.heap.size+1) (w.alloc (.cells #[] 22)) (.slice (some ⟨w.heap.size,0,none⟩) 0 0) [] []:=⟨(Own.lit 1 22 w [] 0 (by omega) rfl).wide2 hl (le_ _),rfl,fun i h=>by simp at h⟩
def NewL (lo:Nat) (w':World) (v:Value) (xss:List (List Int)):Prop:=∃ g cap ss,v=.slice (some ⟨g,0,none⟩) ss.length cap∧LLs lo w'.heap.size w' v ss xss
theorem l3Add_any (lo hi n cap g:Nat) (vt:Value) (ss:List Value) (xss:List (List Int)) (t:List Int) (w:World) (hx:LLs lo hi w (.slice (some ⟨g,0,none⟩) n cap) ss xss) (ht:OwnI lo hi 3 w vt t) (hl:lo≤w.heap.size) (hh:hi≤w.heap.size) (hm:ss.length≤100000) (hms:∀ x∈xss,x.length≤16777216) (hmt:t.length≤16777216) :
  Calls Tryz.prog 191 #[.slice (some ⟨g,0,none⟩) n cap,vt] w (RetV fun v w'=>NewL lo w' v (addL t xss)∧Below w.heap.size w w'):=by
 obtain rfl:n=ss.length:=by obtain ⟨a,c,e⟩:=Own.shape hx.1;injection e
 have HX:=H_ hx
 have HT:=H_ ht
 have HMS:=H_ hms
 have HLN:=H_ hx.2.1
 obtain ⟨ta,tc,rfl⟩:=Own.shape ht
 obtain ⟨_,_,hq,hq1,hq2⟩:=hx.sl.shape
 injection hq with hq0 hq3 hq4
 subst hq0 hq4
 rw [←hq3] at hq1
 unfold maxLen at hq2
 clear hx ht hms hq3
 go_enter Tryz.func191,Tryz.ntmps191
 go_wp2
 go_loopw [5] (fun i wr=>∃ k:Nat,k≤ss.length∧i=.int .i64 k∧Hid (Below w.heap.size w wr)∧Hid (∀ j (_:j<k) (h2:j<xss.length),ltL xss[j] t=true)) (fun i _=>ss.length-(intOf i).toNat)
 case atStart=>exact ⟨0,by omega,rfl,H_ (B_ _ _),H_ (by intro j h;omega)⟩
 case round=>
  rename World=>wr
  obtain ⟨k,hk,rfl,HB,HJ⟩:=hrel
  have hzr:=HB.out.size
  have HXR:=H_ (HX.out.below HB.out hh)
  have HTR:=H_ (HT.out.below HB.out hh)
  by_cases hlt:k<ss.length
  ·have hkx:k<xss.length:=by rw [←HLN.out];exact hlt
   obtain ⟨g',e,_,_,hg,hc,hu⟩:=HXR.out.at k hlt hkx
   injection e with e
   injection e with e
   subst e
   have HU:=H_ hu
   obtain ⟨ua,uc,hs⟩:=Own.shape hu
   rw [hs] at hc
   have HS:=H_ hs
   have hlx:=HMS.out _ (List.getElem_mem hkx)
   have HUS:=H_ (show SlI lo hi wr (.slice ua xss[k].length uc) xss[k] from by rw [←hs];exact hu.sl)
   clear hs hu
   go_wp2_with fail
   refine (l1Less_any _ _ _ _ _ _ xss[k] t wr HUS.out HTR.out.sl hlx hmt).mono ?_
   rintro e1 w1 ⟨rfl,hb1⟩
   have hz1:=hb1.size
   have HB1:=H_ (HB.out.trans (hb1.mono hzr))
   cases hlt2:ltL xss[k] t
   ·have HLT:=H_ hlt2
    have HU1:=H_ (HUS.out.below hb1 (by omega))
    have HT1:=H_ (HTR.out.below hb1 (by omega))
    have hc1:w1.cell? ⟨g,k,none⟩=some (.slice ua xss[k].length uc):=(hb1.cell (p:=⟨g,k,none⟩) hg).trans hc
    clear hb1 hc hlt2
    go_wp2_with fail
    refine (l1SameG_any _ _ _ _ _ _ xss[k] t w1 HU1.out HT1.out.sl hlx hmt).mono ?_
    rintro e2 w2 ⟨rfl,hb2⟩
    have hz2:=hb2.size
    have HB2:=H_ (HB1.out.trans (hb2.mono (by omega)))
    cases heq:eqL xss[k] t
    ·have HA:=H_ (addL_put hkx HJ.out HLT.out (fun h=>by rw [h,eqL_same] at heq;cases heq))
     clear hb2 heq
     have HBW:=HB2
     have hzW:=HBW.out.size
     have HLW:=H_ (HX.out.below HBW.out hh)
     have HTW:=H_ (HT.out.below HBW.out hh)
     have G1:=H_ (al_below w2 (.cells #[] 22))
     have G2:=H_ ((al_below w2 (.cells #[] 22)).trans ((al_below (w2.alloc (.cells #[] 22)) (.cells #[.slice ta t.length tc] 22)).mono (by simp)))
     have G3:=H_ ((al_below w2 (.cells #[.slice ta t.length tc] 22)).trans ((al_below (w2.alloc (.cells #[.slice ta t.length tc] 22)) (.cells #[] 22)).mono (by simp)))
     have z1:(w2.alloc (.cells #[] 22)).drew.heap.size=w2.heap.size+1:=by show ((w2.alloc (.cells #[] 22))).heap.size=_;simp
     have D1:Hid (Below w2.heap.size w2 (w2.alloc (.cells #[] 22)).drew):=H_ (G1.out.drew)
     have F1:=H_ ((HLW.out.fore (k) (by omega)).below D1.out (by omega))
     have z2:((w2.alloc (.cells #[] 22)).alloc (.cells #[.slice ta t.length tc] 22)).drew.heap.size=w2.heap.size+2:=by show (((w2.alloc (.cells #[] 22)).alloc (.cells #[.slice ta t.length tc] 22))).heap.size=_;simp
     have D2:Hid (Below w2.heap.size w2 ((w2.alloc (.cells #[] 22)).alloc (.cells #[.slice ta t.length tc] 22)).drew):=H_ (G2.out.drew)
     have F2:=H_ ((HLW.out.fore (k) (by omega)).below D2.out (by omega))
     have z3:((w2.alloc (.cells #[.slice ta t.length tc] 22)).alloc (.cells #[] 22)).drew.heap.size=w2.heap.size+2:=by show (((w2.alloc (.cells #[.slice ta t.length tc] 22)).alloc (.cells #[] 22))).heap.size=_;simp
     have D3:Hid (Below w2.heap.size w2 ((w2.alloc (.cells #[.slice ta t.length tc] 22)).alloc (.cells #[] 22)).drew):=H_ (G3.out.drew)
     have F3:=H_ ((HLW.out.fore (k) (by omega)).below D3.out (by omega))
     have B1:Hid (LLs w2.heap.size (w2.heap.size+1) (w2.alloc (.cells #[] 22)).drew (.slice (some ⟨w2.heap.size,0,none⟩) 0 0) [] []):=H_ (LLs.below (LLs.zero w2.heap.size w2 (le_ _)) (Below.drew (B_ (w2.heap.size+1) _)) (le_ _))
     have B2:Hid (LLs w2.heap.size (w2.heap.size+1) ((w2.alloc (.cells #[] 22)).alloc (.cells #[.slice ta t.length tc] 22)).drew (.slice (some ⟨w2.heap.size,0,none⟩) 0 0) [] []):=H_ ((LLs.zero w2.heap.size w2 (le_ _)).below (B:=w2.heap.size+1) (Below.drew (by rw [←alloc_size w2 (.cells #[] 22)];exact al_below (w2.alloc (.cells #[] 22)) (.cells #[.slice ta t.length tc] 22))) (le_ _))
     have B3:Hid (LLs (w2.heap.size+1) ((w2.heap.size+1)+1) ((w2.alloc (.cells #[.slice ta t.length tc] 22)).alloc (.cells #[] 22)).drew (.slice (some ⟨(w2.heap.size+1),0,none⟩) 0 0) [] []):=H_ (by have h:=LLs.zero (w2.alloc (.cells #[.slice ta t.length tc] 22)).heap.size (w2.alloc (.cells #[.slice ta t.length tc] 22)) (le_ _);rw [alloc_size] at h;exact h.below (Below.drew (B_ (w2.heap.size+1+1) _)) (le_ _))
     have L2:Hid (Sl 1 (w2.heap.size+1) (w2.heap.size+2) ((w2.alloc (.cells #[] 22)).alloc (.cells #[.slice ta t.length tc] 22)).drew (.slice (some ⟨w2.heap.size+1,0,none⟩) 1 1) 1 [.slice ta t.length tc]):=H_ (by have h:=(Own.lit 1 22 (w2.alloc (.cells #[] 22)) [.slice ta t.length tc] 1 (by omega) rfl).sl;rw [alloc_size] at h;exact h.below (Below.drew (B_ (w2.heap.size+2) _)) (le_ _))
     have L3:Hid (Sl 1 w2.heap.size (w2.heap.size+1) ((w2.alloc (.cells #[.slice ta t.length tc] 22)).alloc (.cells #[] 22)).drew (.slice (some ⟨w2.heap.size,0,none⟩) 1 1) 1 [.slice ta t.length tc]):=H_ ((Own.lit 1 22 w2 [.slice ta t.length tc] 1 (by omega) rfl).sl.below (B:=w2.heap.size+1) (Below.drew (by rw [←alloc_size w2 (.cells #[.slice ta t.length tc] 22)];exact al_below (w2.alloc (.cells #[.slice ta t.length tc] 22)) (.cells #[] 22))) (le_ _))
     have A1:Hid (Own 1 w2.heap.size (w2.heap.size+1) 22 (w2.alloc (.cells #[] 22)).drew (.slice (some ⟨w2.heap.size,0,none⟩) 0 0) 0 []):=H_ B1.out.1
     have A2:Hid (Own 1 w2.heap.size (w2.heap.size+1) 22 ((w2.alloc (.cells #[] 22)).alloc (.cells #[.slice ta t.length tc] 22)).drew (.slice (some ⟨w2.heap.size,0,none⟩) 0 0) 0 []):=H_ B2.out.1
     have A3:Hid (Own 1 (w2.heap.size+1) ((w2.heap.size+1)+1) 22 ((w2.alloc (.cells #[.slice ta t.length tc] 22)).alloc (.cells #[] 22)).drew (.slice (some ⟨(w2.heap.size+1),0,none⟩) 0 0) 0 []):=H_ B3.out.1
     have y1:(0:Int)≤((k:Nat):Int):=by omega
     have y2:((k:Nat):Int)≤(cap:Int):=by omega
     have y3:k≤cap:=by omega
     have y4:((k:Nat):Int)≤(ss.length:Int):=by omega
     have y5:(ss.length:Int)≤(cap:Int):=by omega
     have y6:((ss.length:Int)-((k:Nat):Int)).toNat=ss.length-k:=by omega
     have y7:(0:Int)≤(ss.length:Int):=by omega
     have HBK:=H_ (HLW.out.back (k) (by omega))
     have ONE:=H_ (show (∀ u∈ss.take (k),u.oneCell'=true)∧∀ u∈ss.drop (k),u.oneCell'=true from ⟨fun u hu=>HLW.out.cellsOne u (List.mem_of_mem_take hu),fun u hu=>HLW.out.cellsOne u (List.mem_of_mem_drop hu)⟩)
     have ROW:=H_ (show ∀ w9:World,Below w2.heap.size w2 w9→(∀ i (h1:i<(ss.take (k)).length) (h2:i<(xss.take (k)).length),OwnI lo w9.heap.size 3 w9 (ss.take (k))[i] (xss.take (k))[i])∧(∀ i (h1:i<(ss.drop (k)).length) (h2:i<(xss.drop (k)).length),OwnI lo w9.heap.size 3 w9 (ss.drop (k))[i] (xss.drop (k))[i])∧OwnI lo w9.heap.size 3 w9 (.slice ta t.length tc) t from fun w9 h9=>⟨fun i h1 h2=>by
       rw [List.getElem_take,List.getElem_take];exact ((HLW.out.2.2 i (by rw [List.length_take] at h1;omega) (by rw [List.length_take] at h2;omega)).below h9 (by omega)).lower (le_ _) (by have:=h9.size;omega),fun i h1 h2=>by
       rw [List.getElem_drop,List.getElem_drop];exact ((HLW.out.2.2 (k+i) (by rw [List.length_drop] at h1;omega) (by rw [List.length_drop] at h2;omega)).below h9 (by omega)).lower (le_ _) (by have:=h9.size;omega),(HTW.out.below h9 (by omega)).lower (le_ _) (by have:=h9.size;omega)⟩)
     have HLE:=H_ (show (ss.take (k)).length=(xss.take (k)).length∧(ss.drop (k)).length=(xss.drop (k)).length∧(ss.take (k)).length=k∧(ss.drop (k)).length=ss.length-k from ⟨by rw [List.length_take,List.length_take,HLN.out],by rw [List.length_drop,List.length_drop,HLN.out],by rw [List.length_take];omega,by rw [List.length_drop]⟩)
     go_upto_region 6 with fail
     have HTRUE:True:=trivial
     have hcs:¬cap=k:=by omega
     rw [if_neg hcs] at HBK
     have HBC:=H_ HBK.out
     go_region_held3 (fun w'=>w'.heap.size=w'.heap.size) (first | rfl | trivial) (first
      | (refine step_app_gr (by rfl) _ _ 119 (by rfl) 22 (.slice none 0 0) 1 24 Tryz.underlying119 info_ints (by rfl) (by decide) (by decide) (by rfl) A1.out (by rfl) F1.out ONE.out.1 (by omega) (by omega) ?_;intro v9 w9 ho9 hout9 hg9;rw [Nat.zero_add,List.nil_append] at ho9;(have s9:=hout9.size);(have J9:=H_ (Below.outside D1.out hout9 (by omega) (by omega)));(have K9:Hid (LLs lo w9.heap.size w9 v9 (ss.take (k)) (xss.take (k))):=H_ (LLs.join (B1.out.lower (lo':=lo) (by omega) (le_ _)) hg9 (ho9.wide2 (by omega) (le_ _)) (by rw [HLE.out.2.2.1];simp) HLE.out.1 (fun i h1 h2=>((ROW.out (w2.alloc (.cells #[] 22)).drew D1.out).1 i h1 h2).lower (le_ _) s9) (by omega)));(have O9:=H_ ho9);(have P9:=H_ (show w2.heap.size≤w2.heap.size from le_ _));(have X9:Hid (Sl 1 w9.heap.size (w9.heap.size+1) (w9.alloc (.cells #[.slice ta t.length tc] 22)) (.slice (some ⟨w9.heap.size,0,none⟩) 1 1) 1 [.slice ta t.length tc]):=H_ (Own.lit 1 22 w9 [.slice ta t.length tc] 1 (by omega) rfl).sl);(have Y9:=H_ (J9.out.trans ((al_below w9 (.cells #[.slice ta t.length tc] 22)).mono (by omega))));(have O9a:=H_ (O9.out.alloc (.cells #[.slice ta t.length tc] 22)));(have K9a:=H_ (K9.out.below (al_below w9 (.cells #[.slice ta t.length tc] 22)) (by omega)));clear ho9 hout9 hg9)
      | (refine step_app_gr (by rfl) _ _ 119 (by rfl) 22 (.slice none 0 0) 1 24 Tryz.underlying119 info_ints (by rfl) (by decide) (by decide) (by rfl) A2.out (by rfl) F2.out ONE.out.1 (by omega) (by omega) ?_;intro v9 w9 ho9 hout9 hg9;rw [Nat.zero_add,List.nil_append] at ho9;(have s9:=hout9.size);(have J9:=H_ (Below.outside D2.out hout9 (by omega) (by omega)));(have K9:Hid (LLs lo w9.heap.size w9 v9 (ss.take (k)) (xss.take (k))):=H_ (LLs.join (B2.out.lower (lo':=lo) (by omega) (le_ _)) hg9 (ho9.wide2 (by omega) (le_ _)) (by rw [HLE.out.2.2.1];simp) HLE.out.1 (fun i h1 h2=>((ROW.out ((w2.alloc (.cells #[] 22)).alloc (.cells #[.slice ta t.length tc] 22)).drew D2.out).1 i h1 h2).lower (le_ _) s9) (by omega)));(have O9:=H_ ho9);(have P9:=H_ (show w2.heap.size≤w2.heap.size from le_ _));(have X9:=H_ (L2.out.outside hout9 (by omega)));clear ho9 hout9 hg9)
      | (refine step_app_gr (by rfl) _ _ 119 (by rfl) 22 (.slice none 0 0) 1 24 Tryz.underlying119 info_ints (by rfl) (by decide) (by decide) (by rfl) A3.out (by rfl) F3.out ONE.out.1 (by omega) (by omega) ?_;intro v9 w9 ho9 hout9 hg9;rw [Nat.zero_add,List.nil_append] at ho9;(have s9:=hout9.size);(have J9:=H_ (Below.outside D3.out hout9 (by omega) (by omega)));(have K9:Hid (LLs lo w9.heap.size w9 v9 (ss.take (k)) (xss.take (k))):=H_ (LLs.join (B3.out.lower (lo':=lo) (by omega) (le_ _)) hg9 (ho9.wide2 (by omega) (le_ _)) (by rw [HLE.out.2.2.1];simp) HLE.out.1 (fun i h1 h2=>((ROW.out ((w2.alloc (.cells #[.slice ta t.length tc] 22)).alloc (.cells #[] 22)).drew D3.out).1 i h1 h2).lower (le_ _) s9) (by omega)));(have O9:=H_ ho9);(have P9:=H_ (show (w2.heap.size+1)≤(w2.heap.size+1) from le_ _));(have X9:=H_ (L3.out.outside hout9 (by omega)));clear ho9 hout9 hg9)
      | (refine step_app_gr (by rfl) _ _ 119 (by rfl) 22 (.slice none 0 0) 1 24 Tryz.underlying119 info_ints (by rfl) (by decide) (by decide) (by rfl) O9a.out (by rfl) X9.out (by intro u hu;simp only [List.mem_singleton] at hu;subst hu;rfl) (by omega) (by simp only [alloc_size];omega) ?_;intro v10 w10 ho10 hout10 hg10;(have s10:w9.heap.size≤w10.heap.size:=Nat.le_trans (al_below w9 (.cells #[.slice ta t.length tc] 22)).size hout10.size);(have J10:=H_ (Below.outside Y9.out hout10 (by omega) (by simp only [alloc_size];omega)));(have K10:Hid (LLs lo w10.heap.size w10 v10 (ss.take (k)++[.slice ta t.length tc]) (xss.take (k)++[t])):=H_ (LLs.join K9a.out hg10 (ho10.wide2 (by omega) (le_ _)) (by rw [HLE.out.2.2.1];rfl) (yss:=[t]) rfl (fun i h1 h2=>by (have e0:i=0:=by (simp at h1;omega));subst e0;exact ((ROW.out (w9.alloc (.cells #[.slice ta t.length tc] 22)) Y9.out).2.2).lower (le_ _) hout10.size) (by omega)));(have O10:=H_ ho10);clear ho10 hout10 hg10)
      | (refine step_app_gr (by rfl) _ _ 119 (by rfl) 22 (.slice none 0 0) 1 24 Tryz.underlying119 info_ints (by rfl) (by decide) (by decide) (by rfl) O9.out (by rfl) X9.out (by intro u hu;simp only [List.mem_singleton] at hu;subst hu;rfl) (by omega) (by omega) ?_;intro v10 w10 ho10 hout10 hg10;(have s10:w9.heap.size≤w10.heap.size:=Nat.le_trans (B_ w9.heap.size w9).size hout10.size);(have J10:=H_ (Below.outside J9.out hout10 (by omega) (by omega)));(have K10:Hid (LLs lo w10.heap.size w10 v10 (ss.take (k)++[.slice ta t.length tc]) (xss.take (k)++[t])):=H_ (LLs.join K9.out hg10 (ho10.wide2 (by omega) (le_ _)) (by rw [HLE.out.2.2.1];rfl) (yss:=[t]) rfl (fun i h1 h2=>by (have e0:i=0:=by (simp at h1;omega));subst e0;exact ((ROW.out w9 J9.out).2.2).lower (le_ _) hout10.size) (by omega)));(have O10:=H_ ho10);clear ho10 hout10 hg10)
      | (refine step_app_gr (by rfl) _ _ 119 (by rfl) 22 (.slice none 0 0) 1 24 Tryz.underlying119 info_ints (by rfl) (by decide) (by decide) (by rfl) O9.out (by rfl) X9.out (by intro u hu;simp only [List.mem_singleton] at hu;subst hu;rfl) (by omega) (by omega) ?_;intro v10 w10 ho10 hout10 hg10;(have s10:w9.heap.size≤w10.heap.size:=Nat.le_trans (B_ w9.heap.size w9).size hout10.size);(have J10:=H_ (Below.outside J9.out hout10 (by omega) (by omega)));(have K10:Hid (LLs lo w10.heap.size w10 v10 (ss.take (k)++[.slice ta t.length tc]) (xss.take (k)++[t])):=H_ (LLs.join K9.out hg10 (ho10.wide2 (by omega) (le_ _)) (by rw [HLE.out.2.2.1];rfl) (yss:=[t]) rfl (fun i h1 h2=>by (have e0:i=0:=by (simp at h1;omega));subst e0;exact ((ROW.out w9 J9.out).2.2).lower (le_ _) hout10.size) (by omega)));(have O10:=H_ ho10);clear ho10 hout10 hg10)
      | (refine step_app_gr (by rfl) _ _ 119 (by rfl) 22 (.slice none 0 0) 1 24 Tryz.underlying119 info_ints (by rfl) (by decide) (by decide) (by rfl) O10.out (by rfl) (Sl.below HBC.out J10.out (by omega)) ONE.out.2 (by omega) (by omega) ?_;intro v11 w11 ho11 hout11 hg11;(have J11:=H_ (Below.outside J10.out hout11 (by omega) (by omega)));(have K11:=H_ (LLs.join K10.out hg11 (ho11.wide2 (by omega) (le_ _)) (by rw [List.length_append,HLE.out.2.2.1,HLE.out.2.2.2];rfl) HLE.out.2.1 (fun i h1 h2=>((ROW.out w10 J10.out).2.1 i h1 h2).lower (le_ _) hout11.size) hout11.size));(have O11:=H_ ho11);clear ho11 hout11 hg11))
     all_goals (
      obtain ⟨g11,c11,hv11⟩:=own_some O11.out (by simp)
      subst hv11
      have HR:=H_ (show NewL lo w11 (.slice (some ⟨g11,0,none⟩) (k+1+(ss.length-k)) c11) (addL t xss)∧Below w.heap.size w w11 from ⟨⟨g11,c11,ss.take (k)++[.slice ta t.length tc]++ss.drop (k),by rw [List.length_append,List.length_append,HLE.out.2.2.1,HLE.out.2.2.2];rfl,by rw [HA.out];exact K11.out⟩,HBW.out.trans (J11.out.mono hzW)⟩)
      go_wp2
      go_ret
      exact RetV.mk _ rfl HR.out)
    ·have HA:=H_ (addL_has hkx HJ.out (by rw [eqL_iff] at heq;exact of_decide_eq_true heq))
     clear hb2 heq
     go_wp2
     go_ret
     exact RetV.mk _ rfl ⟨⟨_,_,ss,rfl,by rw [HA.out];exact (HX.out.below HB2.out hh).lower (le_ _) (by omega)⟩,HB2.out⟩
   ·have HJN:=H_ (show ∀ j (_:j<k+1) (h2:j<xss.length),ltL xss[j] t=true from fun j h1 h2=>by
     rcases Nat.lt_or_ge j k with h|h
     ·exact HJ.out j h h2
     ·obtain rfl:j=k:=by omega
      exact hlt2)
    clear hb1 hlt2
    go_wp2
    go_roundw
    case rel=>exact ⟨k+1,by omega,by go_num,HB1,HJN⟩
    case measure=>simp [intOf];omega
  ·have HKE:=H_ (show k=ss.length by omega)
   have hd0:decide ((k:Int)<(ss.length:Int))=false:=by simp;omega
   have HA:=H_ (show addL t xss=xss.take k++[t]++xss.drop k from by rw [HKE.out,HLN.out];exact addL_end (fun j h1 h2=>HJ.out j (by rw [HKE.out,HLN.out];exact h1) h2))
   have HBW:=HB
   have hzW:=HBW.out.size
   have HLW:=H_ (HX.out.below HBW.out hh)
   have HTW:=H_ (HT.out.below HBW.out hh)
   have G1:=H_ (al_below wr (.cells #[] 22))
   have G2:=H_ ((al_below wr (.cells #[] 22)).trans ((al_below (wr.alloc (.cells #[] 22)) (.cells #[.slice ta t.length tc] 22)).mono (by simp)))
   have G3:=H_ ((al_below wr (.cells #[.slice ta t.length tc] 22)).trans ((al_below (wr.alloc (.cells #[.slice ta t.length tc] 22)) (.cells #[] 22)).mono (by simp)))
   have z1:(wr.alloc (.cells #[] 22)).drew.heap.size=wr.heap.size+1:=by show ((wr.alloc (.cells #[] 22))).heap.size=_;simp
   have D1:Hid (Below wr.heap.size wr (wr.alloc (.cells #[] 22)).drew):=H_ (G1.out.drew)
   have F1:=H_ ((HLW.out.fore (k) (by omega)).below D1.out (by omega))
   have z2:((wr.alloc (.cells #[] 22)).alloc (.cells #[.slice ta t.length tc] 22)).drew.heap.size=wr.heap.size+2:=by show (((wr.alloc (.cells #[] 22)).alloc (.cells #[.slice ta t.length tc] 22))).heap.size=_;simp
   have D2:Hid (Below wr.heap.size wr ((wr.alloc (.cells #[] 22)).alloc (.cells #[.slice ta t.length tc] 22)).drew):=H_ (G2.out.drew)
   have F2:=H_ ((HLW.out.fore (k) (by omega)).below D2.out (by omega))
   have z3:((wr.alloc (.cells #[.slice ta t.length tc] 22)).alloc (.cells #[] 22)).drew.heap.size=wr.heap.size+2:=by show (((wr.alloc (.cells #[.slice ta t.length tc] 22)).alloc (.cells #[] 22))).heap.size=_;simp
   have D3:Hid (Below wr.heap.size wr ((wr.alloc (.cells #[.slice ta t.length tc] 22)).alloc (.cells #[] 22)).drew):=H_ (G3.out.drew)
   have F3:=H_ ((HLW.out.fore (k) (by omega)).below D3.out (by omega))
   have B1:Hid (LLs wr.heap.size (wr.heap.size+1) (wr.alloc (.cells #[] 22)).drew (.slice (some ⟨wr.heap.size,0,none⟩) 0 0) [] []):=H_ (LLs.below (LLs.zero wr.heap.size wr (le_ _)) (Below.drew (B_ (wr.heap.size+1) _)) (le_ _))
   have B2:Hid (LLs wr.heap.size (wr.heap.size+1) ((wr.alloc (.cells #[] 22)).alloc (.cells #[.slice ta t.length tc] 22)).drew (.slice (some ⟨wr.heap.size,0,none⟩) 0 0) [] []):=H_ ((LLs.zero wr.heap.size wr (le_ _)).below (B:=wr.heap.size+1) (Below.drew (by rw [←alloc_size wr (.cells #[] 22)];exact al_below (wr.alloc (.cells #[] 22)) (.cells #[.slice ta t.length tc] 22))) (le_ _))
   have B3:Hid (LLs (wr.heap.size+1) ((wr.heap.size+1)+1) ((wr.alloc (.cells #[.slice ta t.length tc] 22)).alloc (.cells #[] 22)).drew (.slice (some ⟨(wr.heap.size+1),0,none⟩) 0 0) [] []):=H_ (by have h:=LLs.zero (wr.alloc (.cells #[.slice ta t.length tc] 22)).heap.size (wr.alloc (.cells #[.slice ta t.length tc] 22)) (le_ _);rw [alloc_size] at h;exact h.below (Below.drew (B_ (wr.heap.size+1+1) _)) (le_ _))
   have L2:Hid (Sl 1 (wr.heap.size+1) (wr.heap.size+2) ((wr.alloc (.cells #[] 22)).alloc (.cells #[.slice ta t.length tc] 22)).drew (.slice (some ⟨wr.heap.size+1,0,none⟩) 1 1) 1 [.slice ta t.length tc]):=H_ (by have h:=(Own.lit 1 22 (wr.alloc (.cells #[] 22)) [.slice ta t.length tc] 1 (by omega) rfl).sl;rw [alloc_size] at h;exact h.below (Below.drew (B_ (wr.heap.size+2) _)) (le_ _))
   have L3:Hid (Sl 1 wr.heap.size (wr.heap.size+1) ((wr.alloc (.cells #[.slice ta t.length tc] 22)).alloc (.cells #[] 22)).drew (.slice (some ⟨wr.heap.size,0,none⟩) 1 1) 1 [.slice ta t.length tc]):=H_ ((Own.lit 1 22 wr [.slice ta t.length tc] 1 (by omega) rfl).sl.below (B:=wr.heap.size+1) (Below.drew (by rw [←alloc_size wr (.cells #[.slice ta t.length tc] 22)];exact al_below (wr.alloc (.cells #[.slice ta t.length tc] 22)) (.cells #[] 22))) (le_ _))
   have A1:Hid (Own 1 wr.heap.size (wr.heap.size+1) 22 (wr.alloc (.cells #[] 22)).drew (.slice (some ⟨wr.heap.size,0,none⟩) 0 0) 0 []):=H_ B1.out.1
   have A2:Hid (Own 1 wr.heap.size (wr.heap.size+1) 22 ((wr.alloc (.cells #[] 22)).alloc (.cells #[.slice ta t.length tc] 22)).drew (.slice (some ⟨wr.heap.size,0,none⟩) 0 0) 0 []):=H_ B2.out.1
   have A3:Hid (Own 1 (wr.heap.size+1) ((wr.heap.size+1)+1) 22 ((wr.alloc (.cells #[.slice ta t.length tc] 22)).alloc (.cells #[] 22)).drew (.slice (some ⟨(wr.heap.size+1),0,none⟩) 0 0) 0 []):=H_ B3.out.1
   have y1:(0:Int)≤((k:Nat):Int):=by omega
   have y2:((k:Nat):Int)≤(cap:Int):=by omega
   have y3:k≤cap:=by omega
   have y4:((k:Nat):Int)≤(ss.length:Int):=by omega
   have y5:(ss.length:Int)≤(cap:Int):=by omega
   have y6:((ss.length:Int)-((k:Nat):Int)).toNat=ss.length-k:=by omega
   have y7:(0:Int)≤(ss.length:Int):=by omega
   have HBK:=H_ (HLW.out.back (k) (by omega))
   have ONE:=H_ (show (∀ u∈ss.take (k),u.oneCell'=true)∧∀ u∈ss.drop (k),u.oneCell'=true from ⟨fun u hu=>HLW.out.cellsOne u (List.mem_of_mem_take hu),fun u hu=>HLW.out.cellsOne u (List.mem_of_mem_drop hu)⟩)
   have ROW:=H_ (show ∀ w9:World,Below wr.heap.size wr w9→(∀ i (h1:i<(ss.take (k)).length) (h2:i<(xss.take (k)).length),OwnI lo w9.heap.size 3 w9 (ss.take (k))[i] (xss.take (k))[i])∧(∀ i (h1:i<(ss.drop (k)).length) (h2:i<(xss.drop (k)).length),OwnI lo w9.heap.size 3 w9 (ss.drop (k))[i] (xss.drop (k))[i])∧OwnI lo w9.heap.size 3 w9 (.slice ta t.length tc) t from fun w9 h9=>⟨fun i h1 h2=>by
     rw [List.getElem_take,List.getElem_take];exact ((HLW.out.2.2 i (by rw [List.length_take] at h1;omega) (by rw [List.length_take] at h2;omega)).below h9 (by omega)).lower (le_ _) (by have:=h9.size;omega),fun i h1 h2=>by
     rw [List.getElem_drop,List.getElem_drop];exact ((HLW.out.2.2 (k+i) (by rw [List.length_drop] at h1;omega) (by rw [List.length_drop] at h2;omega)).below h9 (by omega)).lower (le_ _) (by have:=h9.size;omega),(HTW.out.below h9 (by omega)).lower (le_ _) (by have:=h9.size;omega)⟩)
   have HLE:=H_ (show (ss.take (k)).length=(xss.take (k)).length∧(ss.drop (k)).length=(xss.drop (k)).length∧(ss.take (k)).length=k∧(ss.drop (k)).length=ss.length-k from ⟨by rw [List.length_take,List.length_take,HLN.out],by rw [List.length_drop,List.length_drop,HLN.out],by rw [List.length_take];omega,by rw [List.length_drop]⟩)
   go_upto_region 6 with fail
   have HTRUE:True:=trivial
   rcases (show cap=k∨¬cap=k by omega) with hcs|hcs
   ·rw [if_pos hcs,hcs,Nat.sub_self,show ss.length-k=0 by rw [HKE.out,Nat.sub_self]] at HBK
    rw [show ss.length-k=0 by rw [HKE.out,Nat.sub_self]] at HLE
    have HBC:=H_ HBK.out
    have hcs':=hcs.symm
    clear hcs HBK
    subst hcs'
    go_region_held3 (fun w'=>w'.heap.size=w'.heap.size) (first | rfl | trivial) (first
     | (refine step_app_gr (by rfl) _ _ 119 (by rfl) 22 (.slice none 0 0) 1 24 Tryz.underlying119 info_ints (by rfl) (by decide) (by decide) (by rfl) A1.out (by rfl) F1.out ONE.out.1 (by omega) (by omega) ?_;intro v9 w9 ho9 hout9 hg9;rw [Nat.zero_add,List.nil_append] at ho9;(have s9:=hout9.size);(have J9:=H_ (Below.outside D1.out hout9 (by omega) (by omega)));(have K9:Hid (LLs lo w9.heap.size w9 v9 (ss.take (k)) (xss.take (k))):=H_ (LLs.join (B1.out.lower (lo':=lo) (by omega) (le_ _)) hg9 (ho9.wide2 (by omega) (le_ _)) (by rw [HLE.out.2.2.1];simp) HLE.out.1 (fun i h1 h2=>((ROW.out (wr.alloc (.cells #[] 22)).drew D1.out).1 i h1 h2).lower (le_ _) s9) (by omega)));(have O9:=H_ ho9);(have P9:=H_ (show wr.heap.size≤wr.heap.size from le_ _));(have X9:Hid (Sl 1 w9.heap.size (w9.heap.size+1) (w9.alloc (.cells #[.slice ta t.length tc] 22)) (.slice (some ⟨w9.heap.size,0,none⟩) 1 1) 1 [.slice ta t.length tc]):=H_ (Own.lit 1 22 w9 [.slice ta t.length tc] 1 (by omega) rfl).sl);(have Y9:=H_ (J9.out.trans ((al_below w9 (.cells #[.slice ta t.length tc] 22)).mono (by omega))));(have O9a:=H_ (O9.out.alloc (.cells #[.slice ta t.length tc] 22)));(have K9a:=H_ (K9.out.below (al_below w9 (.cells #[.slice ta t.length tc] 22)) (by omega)));clear ho9 hout9 hg9)
     | (refine step_app_gr (by rfl) _ _ 119 (by rfl) 22 (.slice none 0 0) 1 24 Tryz.underlying119 info_ints (by rfl) (by decide) (by decide) (by rfl) A2.out (by rfl) F2.out ONE.out.1 (by omega) (by omega) ?_;intro v9 w9 ho9 hout9 hg9;rw [Nat.zero_add,List.nil_append] at ho9;(have s9:=hout9.size);(have J9:=H_ (Below.outside D2.out hout9 (by omega) (by omega)));(have K9:Hid (LLs lo w9.heap.size w9 v9 (ss.take (k)) (xss.take (k))):=H_ (LLs.join (B2.out.lower (lo':=lo) (by omega) (le_ _)) hg9 (ho9.wide2 (by omega) (le_ _)) (by rw [HLE.out.2.2.1];simp) HLE.out.1 (fun i h1 h2=>((ROW.out ((wr.alloc (.cells #[] 22)).alloc (.cells #[.slice ta t.length tc] 22)).drew D2.out).1 i h1 h2).lower (le_ _) s9) (by omega)));(have O9:=H_ ho9);(have P9:=H_ (show wr.heap.size≤wr.heap.size from le_ _));(have X9:=H_ (L2.out.outside hout9 (by omega)));clear ho9 hout9 hg9)
     | (refine step_app_gr (by rfl) _ _ 119 (by rfl) 22 (.slice none 0 0) 1 24 Tryz.underlying119 info_ints (by rfl) (by decide) (by decide) (by rfl) A3.out (by rfl) F3.out ONE.out.1 (by omega) (by omega) ?_;intro v9 w9 ho9 hout9 hg9;rw [Nat.zero_add,List.nil_append] at ho9;(have s9:=hout9.size);(have J9:=H_ (Below.outside D3.out hout9 (by omega) (by omega)));(have K9:Hid (LLs lo w9.heap.size w9 v9 (ss.take (k)) (xss.take (k))):=H_ (LLs.join (B3.out.lower (lo':=lo) (by omega) (le_ _)) hg9 (ho9.wide2 (by omega) (le_ _)) (by rw [HLE.out.2.2.1];simp) HLE.out.1 (fun i h1 h2=>((ROW.out ((wr.alloc (.cells #[.slice ta t.length tc] 22)).alloc (.cells #[] 22)).drew D3.out).1 i h1 h2).lower (le_ _) s9) (by omega)));(have O9:=H_ ho9);(have P9:=H_ (show (wr.heap.size+1)≤(wr.heap.size+1) from le_ _));(have X9:=H_ (L3.out.outside hout9 (by omega)));clear ho9 hout9 hg9)
     | (refine step_app_gr (by rfl) _ _ 119 (by rfl) 22 (.slice none 0 0) 1 24 Tryz.underlying119 info_ints (by rfl) (by decide) (by decide) (by rfl) O9a.out (by rfl) X9.out (by intro u hu;simp only [List.mem_singleton] at hu;subst hu;rfl) (by omega) (by simp only [alloc_size];omega) ?_;intro v10 w10 ho10 hout10 hg10;(have s10:w9.heap.size≤w10.heap.size:=Nat.le_trans (al_below w9 (.cells #[.slice ta t.length tc] 22)).size hout10.size);(have J10:=H_ (Below.outside Y9.out hout10 (by omega) (by simp only [alloc_size];omega)));(have K10:Hid (LLs lo w10.heap.size w10 v10 (ss.take (k)++[.slice ta t.length tc]) (xss.take (k)++[t])):=H_ (LLs.join K9a.out hg10 (ho10.wide2 (by omega) (le_ _)) (by rw [HLE.out.2.2.1];rfl) (yss:=[t]) rfl (fun i h1 h2=>by (have e0:i=0:=by (simp at h1;omega));subst e0;exact ((ROW.out (w9.alloc (.cells #[.slice ta t.length tc] 22)) Y9.out).2.2).lower (le_ _) hout10.size) (by omega)));(have O10:=H_ ho10);clear ho10 hout10 hg10)
     | (refine step_app_gr (by rfl) _ _ 119 (by rfl) 22 (.slice none 0 0) 1 24 Tryz.underlying119 info_ints (by rfl) (by decide) (by decide) (by rfl) O9.out (by rfl) X9.out (by intro u hu;simp only [List.mem_singleton] at hu;subst hu;rfl) (by omega) (by omega) ?_;intro v10 w10 ho10 hout10 hg10;(have s10:w9.heap.size≤w10.heap.size:=Nat.le_trans (B_ w9.heap.size w9).size hout10.size);(have J10:=H_ (Below.outside J9.out hout10 (by omega) (by omega)));(have K10:Hid (LLs lo w10.heap.size w10 v10 (ss.take (k)++[.slice ta t.length tc]) (xss.take (k)++[t])):=H_ (LLs.join K9.out hg10 (ho10.wide2 (by omega) (le_ _)) (by rw [HLE.out.2.2.1];rfl) (yss:=[t]) rfl (fun i h1 h2=>by (have e0:i=0:=by (simp at h1;omega));subst e0;exact ((ROW.out w9 J9.out).2.2).lower (le_ _) hout10.size) (by omega)));(have O10:=H_ ho10);clear ho10 hout10 hg10)
     | (refine step_app_gr (by rfl) _ _ 119 (by rfl) 22 (.slice none 0 0) 1 24 Tryz.underlying119 info_ints (by rfl) (by decide) (by decide) (by rfl) O9.out (by rfl) X9.out (by intro u hu;simp only [List.mem_singleton] at hu;subst hu;rfl) (by omega) (by omega) ?_;intro v10 w10 ho10 hout10 hg10;(have s10:w9.heap.size≤w10.heap.size:=Nat.le_trans (B_ w9.heap.size w9).size hout10.size);(have J10:=H_ (Below.outside J9.out hout10 (by omega) (by omega)));(have K10:Hid (LLs lo w10.heap.size w10 v10 (ss.take (k)++[.slice ta t.length tc]) (xss.take (k)++[t])):=H_ (LLs.join K9.out hg10 (ho10.wide2 (by omega) (le_ _)) (by rw [HLE.out.2.2.1];rfl) (yss:=[t]) rfl (fun i h1 h2=>by (have e0:i=0:=by (simp at h1;omega));subst e0;exact ((ROW.out w9 J9.out).2.2).lower (le_ _) hout10.size) (by omega)));(have O10:=H_ ho10);clear ho10 hout10 hg10)
     | (refine step_app_gr (by rfl) _ _ 119 (by rfl) 22 (.slice none 0 0) 1 24 Tryz.underlying119 info_ints (by rfl) (by decide) (by decide) (by rfl) O10.out (by rfl) (Sl.below HBC.out J10.out (by omega)) ONE.out.2 (by omega) (by omega) ?_;intro v11 w11 ho11 hout11 hg11;(have J11:=H_ (Below.outside J10.out hout11 (by omega) (by omega)));(have K11:=H_ (LLs.join K10.out hg11 (ho11.wide2 (by omega) (le_ _)) (by rw [List.length_append,HLE.out.2.2.1,HLE.out.2.2.2];rfl) HLE.out.2.1 (fun i h1 h2=>((ROW.out w10 J10.out).2.1 i h1 h2).lower (le_ _) hout11.size) hout11.size));(have O11:=H_ ho11);clear ho11 hout11 hg11))
    all_goals (
     obtain ⟨g11,c11,hv11⟩:=own_some O11.out (by simp)
     subst hv11
     have HR:=H_ (show NewL lo w11 (.slice (some ⟨g11,0,none⟩) (k+1+(0)) c11) (addL t xss)∧Below w.heap.size w w11 from ⟨⟨g11,c11,ss.take (k)++[.slice ta t.length tc]++ss.drop (k),by rw [List.length_append,List.length_append,HLE.out.2.2.1,HLE.out.2.2.2];rfl,by rw [HA.out];exact K11.out⟩,HBW.out.trans (J11.out.mono hzW)⟩)
     go_wp2
     go_ret
     exact RetV.mk _ rfl HR.out)
   ·rw [if_neg hcs] at HBK
    have HBC:=H_ HBK.out
    go_region_held3 (fun w'=>w'.heap.size=w'.heap.size) (first | rfl | trivial) (first
     | (refine step_app_gr (by rfl) _ _ 119 (by rfl) 22 (.slice none 0 0) 1 24 Tryz.underlying119 info_ints (by rfl) (by decide) (by decide) (by rfl) A1.out (by rfl) F1.out ONE.out.1 (by omega) (by omega) ?_;intro v9 w9 ho9 hout9 hg9;rw [Nat.zero_add,List.nil_append] at ho9;(have s9:=hout9.size);(have J9:=H_ (Below.outside D1.out hout9 (by omega) (by omega)));(have K9:Hid (LLs lo w9.heap.size w9 v9 (ss.take (k)) (xss.take (k))):=H_ (LLs.join (B1.out.lower (lo':=lo) (by omega) (le_ _)) hg9 (ho9.wide2 (by omega) (le_ _)) (by rw [HLE.out.2.2.1];simp) HLE.out.1 (fun i h1 h2=>((ROW.out (wr.alloc (.cells #[] 22)).drew D1.out).1 i h1 h2).lower (le_ _) s9) (by omega)));(have O9:=H_ ho9);(have P9:=H_ (show wr.heap.size≤wr.heap.size from le_ _));(have X9:Hid (Sl 1 w9.heap.size (w9.heap.size+1) (w9.alloc (.cells #[.slice ta t.length tc] 22)) (.slice (some ⟨w9.heap.size,0,none⟩) 1 1) 1 [.slice ta t.length tc]):=H_ (Own.lit 1 22 w9 [.slice ta t.length tc] 1 (by omega) rfl).sl);(have Y9:=H_ (J9.out.trans ((al_below w9 (.cells #[.slice ta t.length tc] 22)).mono (by omega))));(have O9a:=H_ (O9.out.alloc (.cells #[.slice ta t.length tc] 22)));(have K9a:=H_ (K9.out.below (al_below w9 (.cells #[.slice ta t.length tc] 22)) (by omega)));clear ho9 hout9 hg9)
     | (refine step_app_gr (by rfl) _ _ 119 (by rfl) 22 (.slice none 0 0) 1 24 Tryz.underlying119 info_ints (by rfl) (by decide) (by decide) (by rfl) A2.out (by rfl) F2.out ONE.out.1 (by omega) (by omega) ?_;intro v9 w9 ho9 hout9 hg9;rw [Nat.zero_add,List.nil_append] at ho9;(have s9:=hout9.size);(have J9:=H_ (Below.outside D2.out hout9 (by omega) (by omega)));(have K9:Hid (LLs lo w9.heap.size w9 v9 (ss.take (k)) (xss.take (k))):=H_ (LLs.join (B2.out.lower (lo':=lo) (by omega) (le_ _)) hg9 (ho9.wide2 (by omega) (le_ _)) (by rw [HLE.out.2.2.1];simp) HLE.out.1 (fun i h1 h2=>((ROW.out ((wr.alloc (.cells #[] 22)).alloc (.cells #[.slice ta t.length tc] 22)).drew D2.out).1 i h1 h2).lower (le_ _) s9) (by omega)));(have O9:=H_ ho9);(have P9:=H_ (show wr.heap.size≤wr.heap.size from le_ _));(have X9:=H_ (L2.out.outside hout9 (by omega)));clear ho9 hout9 hg9)
     | (refine step_app_gr (by rfl) _ _ 119 (by rfl) 22 (.slice none 0 0) 1 24 Tryz.underlying119 info_ints (by rfl) (by decide) (by decide) (by rfl) A3.out (by rfl) F3.out ONE.out.1 (by omega) (by omega) ?_;intro v9 w9 ho9 hout9 hg9;rw [Nat.zero_add,List.nil_append] at ho9;(have s9:=hout9.size);(have J9:=H_ (Below.outside D3.out hout9 (by omega) (by omega)));(have K9:Hid (LLs lo w9.heap.size w9 v9 (ss.take (k)) (xss.take (k))):=H_ (LLs.join (B3.out.lower (lo':=lo) (by omega) (le_ _)) hg9 (ho9.wide2 (by omega) (le_ _)) (by rw [HLE.out.2.2.1];simp) HLE.out.1 (fun i h1 h2=>((ROW.out ((wr.alloc (.cells #[.slice ta t.length tc] 22)).alloc (.cells #[] 22)).drew D3.out).1 i h1 h2).lower (le_ _) s9) (by omega)));(have O9:=H_ ho9);(have P9:=H_ (show (wr.heap.size+1)≤(wr.heap.size+1) from le_ _));(have X9:=H_ (L3.out.outside hout9 (by omega)));clear ho9 hout9 hg9)
     | (refine step_app_gr (by rfl) _ _ 119 (by rfl) 22 (.slice none 0 0) 1 24 Tryz.underlying119 info_ints (by rfl) (by decide) (by decide) (by rfl) O9a.out (by rfl) X9.out (by intro u hu;simp only [List.mem_singleton] at hu;subst hu;rfl) (by omega) (by simp only [alloc_size];omega) ?_;intro v10 w10 ho10 hout10 hg10;(have s10:w9.heap.size≤w10.heap.size:=Nat.le_trans (al_below w9 (.cells #[.slice ta t.length tc] 22)).size hout10.size);(have J10:=H_ (Below.outside Y9.out hout10 (by omega) (by simp only [alloc_size];omega)));(have K10:Hid (LLs lo w10.heap.size w10 v10 (ss.take (k)++[.slice ta t.length tc]) (xss.take (k)++[t])):=H_ (LLs.join K9a.out hg10 (ho10.wide2 (by omega) (le_ _)) (by rw [HLE.out.2.2.1];rfl) (yss:=[t]) rfl (fun i h1 h2=>by (have e0:i=0:=by (simp at h1;omega));subst e0;exact ((ROW.out (w9.alloc (.cells #[.slice ta t.length tc] 22)) Y9.out).2.2).lower (le_ _) hout10.size) (by omega)));(have O10:=H_ ho10);clear ho10 hout10 hg10)
     | (refine step_app_gr (by rfl) _ _ 119 (by rfl) 22 (.slice none 0 0) 1 24 Tryz.underlying119 info_ints (by rfl) (by decide) (by decide) (by rfl) O9.out (by rfl) X9.out (by intro u hu;simp only [List.mem_singleton] at hu;subst hu;rfl) (by omega) (by omega) ?_;intro v10 w10 ho10 hout10 hg10;(have s10:w9.heap.size≤w10.heap.size:=Nat.le_trans (B_ w9.heap.size w9).size hout10.size);(have J10:=H_ (Below.outside J9.out hout10 (by omega) (by omega)));(have K10:Hid (LLs lo w10.heap.size w10 v10 (ss.take (k)++[.slice ta t.length tc]) (xss.take (k)++[t])):=H_ (LLs.join K9.out hg10 (ho10.wide2 (by omega) (le_ _)) (by rw [HLE.out.2.2.1];rfl) (yss:=[t]) rfl (fun i h1 h2=>by (have e0:i=0:=by (simp at h1;omega));subst e0;exact ((ROW.out w9 J9.out).2.2).lower (le_ _) hout10.size) (by omega)));(have O10:=H_ ho10);clear ho10 hout10 hg10)
     | (refine step_app_gr (by rfl) _ _ 119 (by rfl) 22 (.slice none 0 0) 1 24 Tryz.underlying119 info_ints (by rfl) (by decide) (by decide) (by rfl) O9.out (by rfl) X9.out (by intro u hu;simp only [List.mem_singleton] at hu;subst hu;rfl) (by omega) (by omega) ?_;intro v10 w10 ho10 hout10 hg10;(have s10:w9.heap.size≤w10.heap.size:=Nat.le_trans (B_ w9.heap.size w9).size hout10.size);(have J10:=H_ (Below.outside J9.out hout10 (by omega) (by omega)));(have K10:Hid (LLs lo w10.heap.size w10 v10 (ss.take (k)++[.slice ta t.length tc]) (xss.take (k)++[t])):=H_ (LLs.join K9.out hg10 (ho10.wide2 (by omega) (le_ _)) (by rw [HLE.out.2.2.1];rfl) (yss:=[t]) rfl (fun i h1 h2=>by (have e0:i=0:=by (simp at h1;omega));subst e0;exact ((ROW.out w9 J9.out).2.2).lower (le_ _) hout10.size) (by omega)));(have O10:=H_ ho10);clear ho10 hout10 hg10)
     | (refine step_app_gr (by rfl) _ _ 119 (by rfl) 22 (.slice none 0 0) 1 24 Tryz.underlying119 info_ints (by rfl) (by decide) (by decide) (by rfl) O10.out (by rfl) (Sl.below HBC.out J10.out (by omega)) ONE.out.2 (by omega) (by omega) ?_;intro v11 w11 ho11 hout11 hg11;(have J11:=H_ (Below.outside J10.out hout11 (by omega) (by omega)));(have K11:=H_ (LLs.join K10.out hg11 (ho11.wide2 (by omega) (le_ _)) (by rw [List.length_append,HLE.out.2.2.1,HLE.out.2.2.2];rfl) HLE.out.2.1 (fun i h1 h2=>((ROW.out w10 J10.out).2.1 i h1 h2).lower (le_ _) hout11.size) hout11.size));(have O11:=H_ ho11);clear ho11 hout11 hg11))
    all_goals (
     obtain ⟨g11,c11,hv11⟩:=own_some O11.out (by simp)
     subst hv11
     have HR:=H_ (show NewL lo w11 (.slice (some ⟨g11,0,none⟩) (k+1+(ss.length-k)) c11) (addL t xss)∧Below w.heap.size w w11 from ⟨⟨g11,c11,ss.take (k)++[.slice ta t.length tc]++ss.drop (k),by rw [List.length_append,List.length_append,HLE.out.2.2.1,HLE.out.2.2.2];rfl,by rw [HA.out];exact K11.out⟩,HBW.out.trans (J11.out.mono hzW)⟩)
     go_wp2
     go_ret
     exact RetV.mk _ rfl HR.out)
theorem NewL.go {lo:Nat} {w w':World} {v:Value} {xss:List (List Int)} (h:NewL lo w v xss) (hb:Below w.heap.size w w'):NewL lo w' v xss:=by
 obtain ⟨g,cap,ss,rfl,h1⟩:=h
 exact ⟨g,cap,ss,rfl,(h1.below hb (le_ _)).lower (le_ _) hb.size⟩
theorem NewL.low {lo lo':Nat} {w:World} {v:Value} {xss:List (List Int)} (h:NewL lo w v xss) (hl:lo'≤lo):NewL lo' w v xss:=by
 obtain ⟨g,cap,ss,rfl,h1⟩:=h
 exact ⟨g,cap,ss,rfl,h1.lower hl (le_ _)⟩
theorem NewL.shape {lo:Nat} {w:World} {v:Value} {xss:List (List Int)} (h:NewL lo w v xss):∃ g cap,v=.slice (some ⟨g,0,none⟩) xss.length cap:=by
 obtain ⟨g,cap,ss,rfl,h1⟩:=h
 exact ⟨g,cap,by rw [h1.2.1]⟩
theorem NewL.shapeN {lo:Nat} {w:World} {v:Value} {xss:List (List Int)} (h:NewL lo w v xss):∃ g n cap,v=.slice (some ⟨g,0,none⟩) n cap:=by
 obtain ⟨g,cap,ss,rfl,h1⟩:=h
 exact ⟨g,_,cap,rfl⟩
theorem NewL.sl {lo:Nat} {w:World} {v:Value} {xss:List (List Int)} (h:NewL lo w v xss):SlLL lo w.heap.size w v xss:=by
 obtain ⟨g,cap,ss,rfl,h1⟩:=h
 exact h1.sl
theorem NewL.at {lo n cap g:Nat} {w:World} {xss:List (List Int)} (h:NewL lo w (.slice (some ⟨g,0,none⟩) n cap) xss) (i:Nat) (hi:i<xss.length) :
  ∃ u,g<w.heap.size∧w.cell? ⟨g,i,none⟩=some u∧OwnI lo w.heap.size 3 w u xss[i]:=by
 obtain ⟨g',cap',ss,e,h1⟩:=h
 injection e with e1 e2 e3
 injection e1 with e1
 injection e1 with e1
 subst e1 e2 e3
 obtain ⟨g',e,_,_,hg,hc,hu⟩:=h1.at i (by rw [h1.2.1];exact hi) hi
 injection e with e
 injection e with e
 subst e
 exact ⟨_,hg,hc,hu⟩
theorem l3AddN (lo:Nat) (v vt:Value) (xss:List (List Int)) (t:List Int) (w:World) (hx:NewL lo w v xss) (ht:OwnI lo w.heap.size 3 w vt t) (hl:lo≤w.heap.size) (hm:xss.length≤100000) (hms:∀ x∈xss,x.length≤16777216) (hmt:t.length≤16777216) :
  Calls Tryz.prog 191 #[v,vt] w (RetV fun v w'=>NewL lo w' v (addL t xss)∧Below w.heap.size w w'):=by
 obtain ⟨g,cap,ss,rfl,h1⟩:=hx
 exact l3Add_any lo w.heap.size _ cap g vt ss xss t w h1 ht hl (le_ _) (by rw [h1.2.1];exact hm) hms hmt
end Go.Proofs.YtfnnhimopokpnaaGreatDoor
