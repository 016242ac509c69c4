/- Lemmas for this seat; no condition. -/
import Derived.Test.YtfnnhimopokpnaaGreatDoorHAAU
namespace Go.Proofs.YtfnnhimopokpnaaGreatDoor
open Go.RowKit
set_option maxRecDepth 100000
set_option maxHeartbeats 0
set_option linter.unusedVariables false
theorem equalV_no {e f:List Int} (h:okX e f ((pairsV e f).getD [])=false):equalV e f=if (differV e f).isSome then 0 else -1:=by
 unfold equalV
 split
 ·rename_i hk
  unfold okX at h
  rw [hk] at h
  simp only [Bool.and_true,Bool.not_eq_false',Bool.or_eq_true,decide_eq_true_eq] at h
  have hp:pairsV e f=none:=by unfold pairsV;rw [if_pos h]
  rw [hp] at hk
  have:=(okP_open hk).2.1
  simp at this
 ·rfl
theorem equalV_yes {e f:List Int} (h:okX e f ((pairsV e f).getD [])=true):equalV e f=1:=by
 unfold okX at h
 simp only [Bool.and_eq_true] at h
 unfold equalV
 rw [if_pos h.2]
theorem differ_any (lo hi lo' hi':Nat) (ve vf:Value) (e f:List Int) (w:World) (hx:SlI lo hi w ve e) (hy:SlI lo' hi' w vf f) (hh:hi≤w.heap.size) (hh':hi'≤w.heap.size) (hm:e.length≤1048576) (hm':f.length≤1048576) :
  Calls Tryz.prog 91 #[ve,vf] w (RetV (FtO (differV e f) w)):=by
 have HX:=H_ hx
 have HY:=H_ hy
 clear hx hy
 go_enter Tryz.func91,Tryz.ntmps91
 go_wp2_with fail
 refine (autosOf_any _ _ _ _ _ _ e f w HX.out HY.out hh hh' hm hm').mono ?_
 rintro e1 w1 ⟨r,rfl,v1,v2,v3,v4,ok,rfl,ha⟩
 have hz1:=ha.below.size
 have HA:=H_ ha
 clear ha
 obtain ⟨⟨a1,n1,d1,rfl⟩,a2,n2,d2,rfl⟩:=HA.out.tg.one.shape
 obtain ⟨⟨a3,n3,d3,rfl⟩,a4,n4,d4,rfl⟩:=HA.out.tg.two.shape
 obtain ⟨w2,hw2⟩:∃ w2,w2=w1.alloc (.cells #[.slice a1 n1 d1,.slice a2 n2 d2,.slice a3 n3 d3,.slice a4 n4 d4] 143):=⟨_,rfl⟩
 obtain ⟨hb2,KT,hs2⟩:=box_facts2 hw2
 have HB2:=H_ (HA.out.below.trans (hb2.mono hz1))
 have HT2:=H_ ((HA.out.tg.below hb2 (le_ _)))
 have HK2:=H_ KT
 clear hb2 KT
 cases ok
 ·have HNO:=H_ (show differV e f=none from by unfold differV pairsV;rw [if_pos (HA.out.shut rfl)];rfl)
  go_wp2
  rw [←hw2]
  refine bodyPost_ret (v:=.tuple #[.slice none 0 0,.bool false]) (by simp [results,Tryz.results91,go_sem]) rfl ?_
  exact RetV.mk _ rfl ⟨.inr ⟨HNO.out,rfl⟩,HB2.out⟩
 ·have HVA:=H_ (show pairsV e f=pairsA (autV e) (autV f) from by unfold pairsV;rw [if_neg (fun h=>h.elim (HA.out.open_ rfl).1 (HA.out.open_ rfl).2)])
  go_wp2_with fail
  simp only [←hw2]
  clear hw2
  refine (pairs_any _ _ _ _ _ _ _ _ w2 HT2.out (by omega) (autV_ok e) (autV_ok f) (fun _=>True) trivial (fun _ _ _ _=>trivial)).mono ?_
  rintro e3 w3 ⟨r,rfl,v,ok,ps,rfl,_,_,_,hpa,_,hb3⟩
  rw [←HVA.out] at hpa
  have HPA:=H_ hpa
  clear hpa
  have hz3:=hb3.size
  have HB3:=H_ (HB2.out.trans (hb3.mono (by omega)))
  have HT3:=H_ (HT2.out.below hb3 (by omega))
  have k3:=HK2.out.below hb3 (by omega)
  have c0:=k3.cell 0
  have c1:=k3.cell 1
  have c2:=k3.cell 2
  have c3:=k3.cell 3
  clear hb3 k3
  cases ok
  ·have HNO:=H_ (show differV e f=none from by unfold differV;rw [HPA.out];rfl)
   go_wp2
   refine bodyPost_ret (v:=.tuple #[.slice none 0 0,.bool false]) (by simp [results,Tryz.results91,go_sem]) rfl ?_
   exact RetV.mk _ rfl ⟨.inr ⟨HNO.out,rfl⟩,HB3.out⟩
  ·have HDV:=H_ (show differV e f=levGo (autV e) (autV f) 21 [(1,1)] [((1,1),[])] from by unfold differV;rw [HPA.out];rfl)
   go_wp2_with fail
   refine (firstTrace_any _ _ _ _ _ _ _ _ w3 HT3.out (by omega) (autV_ok e) (autV_ok f)).mono ?_
   rw [←HDV.out]
   rintro e4 w4 ⟨r,rfl,hor,hb4⟩
   have HB4:=H_ (HB3.out.trans (hb4.mono (by omega)))
   have hz4:=hb4.size
   clear hb4
   rcases hor with ⟨t,v4',ht,rfl,hov,hl⟩|⟨hn,rfl⟩
   ·have HOV:=H_ (show OwnI w.heap.size w4.heap.size 3 w4 v4' t∧t.length≤64 from ⟨hov.lower (by omega) (le_ _),hl⟩)
    have HT:=H_ ht
    clear hov ht
    go_wp2
    refine bodyPost_ret (v:=.tuple #[v4',.bool true]) (by simp [results,Tryz.results91,go_sem]) rfl ?_
    exact RetV.mk _ rfl ⟨.inl ⟨_,_,HT.out,rfl,HOV.out⟩,HB4.out⟩
   ·have HN:=H_ hn
    clear hn
    go_wp2
    refine bodyPost_ret (v:=.tuple #[.slice none 0 0,.bool false]) (by simp [results,Tryz.results91,go_sem]) rfl ?_
    exact RetV.mk _ rfl ⟨.inr ⟨HN.out,rfl⟩,HB4.out⟩
theorem equalX_any (lo hi lo' hi':Nat) (ve vf:Value) (e f:List Int) (w:World) (hx:SlI lo hi w ve e) (hy:SlI lo' hi' w vf f) (hh:hi≤w.heap.size) (hh':hi'≤w.heap.size) (hm:e.length≤1048576) (hm':f.length≤1048576) :
  Calls Tryz.prog 90 #[ve,vf] w fun r w'=>r=.returned (.int .i64 (equalV e f))∧Below w.heap.size w w':=by
 have HX:=H_ hx
 have HY:=H_ hy
 clear hx hy
 go_enter Tryz.func90,Tryz.ntmps90
 go_wp2_with fail
 refine (pairsOf_any _ _ _ _ _ _ e f w HX.out HY.out hh hh' hm hm').mono ?_
 rintro e1 w1 ⟨vp,rfl,⟨ss,hp,h112,hro⟩,hb1⟩
 have hz1:=hb1.size
 have HP:=H_ (And.intro hp.sl hro)
 have HB1:=H_ hb1
 clear hp hro hb1
 go_wp2_with fail
 refine (pairsOk_any _ _ _ _ _ _ _ _ _ e f _ w1 (HX.out.below HB1.out hh) (HY.out.below HB1.out hh') HP.out.1 (by omega) (by omega) (le_ _) hm hm' _ rfl HP.out.2).mono ?_
 rintro e2 w2 ⟨b,rfl,hbv,hb2⟩
 have hz2:=hb2.size
 have HB2:=H_ (HB1.out.trans (hb2.mono hz1))
 have HBV:=H_ hbv
 clear hb2 hbv
 cases b
 ·go_wp2_with fail
  refine (differ_any _ _ _ _ _ _ e f w2 (HX.out.below HB2.out hh) (HY.out.below HB2.out hh') (by omega) (by omega) hm hm').mono ?_
  rintro e3 w3 ⟨r,rfl,hor,hb3⟩
  have HB3:=H_ (HB2.out.trans (hb3.mono (by omega)))
  clear hb3
  rcases hor with ⟨t,v4',ht,rfl,_,_⟩|⟨hn,rfl⟩
  ·have HE:Hid (equalV e f=0):=H_ (by rw [equalV_no HBV.out.symm,ht];rfl)
   clear ht
   go_wp2
   go_ret
   exact ⟨by rw [HE.out];rfl,HB3.out⟩
  ·have HE:Hid (equalV e f=-1):=H_ (by rw [equalV_no HBV.out.symm,hn];rfl)
   clear hn
   go_wp2
   go_ret
   exact ⟨by rw [HE.out];rfl,HB3.out⟩
 ·have HE:Hid (equalV e f=1):=H_ (equalV_yes HBV.out.symm)
  go_wp2
  go_ret
  exact ⟨by rw [HE.out];rfl,HB2.out⟩
def bitI (t k:Nat):Int:=if t.testBit k then 1 else 0
theorem bitI_cases (t k:Nat):bitI t k=0∨bitI t k=1:=by unfold bitI;split<;>simp
theorem bit_div (t k:Nat):((t:Int)/2 ^ k).tmod 2=bitI t k:=by
 unfold bitI
 rw [show ((t:Int)/2 ^ k)=((t/2 ^ k:Nat):Int) by push_cast;rfl,Nat.testBit_eq_decide_div_mod_eq]
 have:=Nat.mod_two_eq_zero_or_one (t/2 ^ k)
 rw [show (((t/2 ^ k:Nat):Int).tmod 2)=((t/2 ^ k%2:Nat):Int) from by rw [Int.tmod_eq_emod_of_nonneg (Int.natCast_nonneg _)];rfl]
 rcases this with h|h<;>rw [h]<;>rfl
theorem l1BitG (t k:Nat) (_ht:t<1099511627776) (hk:k≤60) (w:World):Calls Tryz.prog 109 #[.int .i64 t,.int .i64 k] w fun e w'=>e=.returned (.int .i64 (bitI t k))∧w=w':=by
 have HB:=H_ (bit_div t k)
 go_enter Tryz.func109,Tryz.ntmps109
 go_wp2
 go_ret
 exact ⟨ret_int HB.out,rfl⟩
theorem and_mod_succ (a b k:Nat):(((a &&& b)%2 ^ (k+1):Nat):Int)=(((a &&& b)%2 ^ k:Nat):Int)+bitI a k*bitI b k*2 ^ k:=by
 have h2:(a &&& b).testBit k=(a.testBit k&&b.testBit k):=Nat.testBit_and a b k
 have h5:(a &&& b)/2 ^ k%2=if a.testBit k&&b.testBit k then 1 else 0:=by
  rw [Nat.testBit_eq_decide_div_mod_eq] at h2
  have h6:=Nat.mod_two_eq_zero_or_one ((a &&& b)/2 ^ k)
  cases h7:(a.testBit k&&b.testBit k)
  ·rw [h7] at h2
   have:=of_decide_eq_false h2
   simp;omega
  ·rw [h7] at h2
   have:=of_decide_eq_true h2
   simp;omega
 rw [Nat.mod_pow_succ,h5]
 unfold bitI
 cases a.testBit k<;>cases b.testBit k<;>simp
theorem pow_wrap20:∀ {k:Nat},k<21→wrap64 (2 ^ k)=((2 ^ k:Nat):Int):=by decide +kernel
theorem l1BothG (a b:Nat) (ha:a<1048576) (hb:b<1048576) (w:World):Calls Tryz.prog 158 #[.int .i64 a,.int .i64 b] w fun e w'=>e=.returned (.int .i64 ((a &&& b:Nat):Int))∧w=w':=by
 go_enter Tryz.func158,Tryz.ntmps158
 go_wp2
 go_loop [5,6] (fun o i=>∃ k:Nat,k≤20∧i=.int .i64 k∧o=.int .i64 (((a &&& b)%2 ^ k:Nat):Int)) (fun _ i=>20-(intOf i).toNat)
 case atStart=>exact ⟨0,by omega,rfl,by rw [Nat.pow_zero,Nat.mod_one];rfl⟩
 case round=>
  obtain ⟨k,hk,rfl,rfl⟩:=hrel
  obtain ⟨K,hK⟩:∃ K:Nat,K=2 ^ k:=⟨_,rfl⟩
  have pw:=pow_wrap20 (k:=k) (by omega)
  have HS:=H_ (and_mod_succ a b k)
  rw [←hK] at pw HS
  rw [←hK]
  obtain ⟨o,ho⟩:∃ o,o=(a &&& b)%K:=⟨_,rfl⟩
  have hoK:o<K:=by rw [ho,hK];exact Nat.mod_lt _ (Nat.two_pow_pos k)
  rw [←ho]
  rw [←ho] at HS
  have ho20:o<1048576:=by
   rw [ho]
   exact Nat.lt_of_le_of_lt (Nat.mod_le _ _) (Nat.lt_of_le_of_lt Nat.and_le_left ha)
  have HL:Hid (a<K∨b<K→o=a &&& b):=H_ fun h=>by
   rw [ho]
   have h1:a &&& b≤a:=Nat.and_le_left
   have h2:a &&& b≤b:=Nat.and_le_right
   exact Nat.mod_eq_of_lt (by omega)
  have hK20:K≤1048576:=by rw [hK];exact Nat.pow_le_pow_right (n:=2) (by omega) (show k≤20 from hk)
  have HK20:Hid (k=20→K=1048576):=H_ fun h=>by rw [hK,h]
  have HKi:Hid ((2:Int) ^ k=(K:Int)):=H_ (by rw [hK];push_cast;rfl)
  clear hK ho
  by_cases h1:K≤a
  ·by_cases h2:K≤b
   ·have hk20:k<20:=by
     rcases Nat.lt_or_ge k 20 with h|h
     ·exact h
     ·have:=HK20.out (by omega)
      omega
    go_wp2_with fail
    refine (l1BitG a k (by omega) (by omega) _).mono ?_
    rintro e _ ⟨rfl,rfl⟩
    rw [HKi.out] at HS
    rcases bitI_cases a k with h3|h3<;>rw [h3] at HS ⊢
    all_goals
     clear h3
     go_wp2_with fail
     refine (l1BitG b k (by omega) (by omega) _).mono ?_
     rintro e _ ⟨rfl,rfl⟩
     rcases bitI_cases b k with h4|h4<;>rw [h4] at HS ⊢
     all_goals
      clear h4
      go_wp2
      go_round
      case rel=>exact ⟨k+1,by omega,by go_num,by rw [HS.out];simp⟩
      case measure=>simp [intOf];omega
   ·have HE:=H_ (HL.out (by omega))
    go_wp2
    go_ret
    exact ⟨ret_int (by rw [HE.out]),rfl⟩
  ·have HE:=H_ (HL.out (by omega))
   go_wp2
   go_ret
   exact ⟨ret_int (by rw [HE.out]),rfl⟩
theorem or_minus (a b:Nat) (ha:a<1048576) (hb:b<1048576):((a:Int)+b-((a &&& b:Nat):Int))=((a ||| b:Nat):Int):=by
 have:=or_add_and 20 a b (by omega)
 omega
theorem l1EitherG (a b:Nat) (ha:a<1048576) (hb:b<1048576) (w:World):Calls Tryz.prog 157 #[.int .i64 a,.int .i64 b] w fun e w'=>e=.returned (.int .i64 ((a ||| b:Nat):Int))∧w=w':=by
 have HO:=H_ (or_minus a b ha hb)
 have HB:=H_ (l1BothG a b ha hb w)
 have hle:a &&& b≤a:=Nat.and_le_left
 obtain ⟨c,hc⟩:∃ c,c=a &&& b:=⟨_,rfl⟩
 rw [←hc] at HB HO hle
 clear hc
 go_enter Tryz.func157,Tryz.ntmps157
 go_wp2_with fail
 refine HB.out.mono ?_
 rintro e _ ⟨rfl,rfl⟩
 go_wp2
 go_ret
 exact ⟨ret_int HO.out,rfl⟩
def EndC (t:KT):Prop:=∀ (lo hi:Nat) (v:Value) (w:World),SlI lo hi w v t.post→t.ok 0=true→t.size≤2000→hi≤w.heap.size →
 Calls Tryz.prog 110 #[v] w fun e w'=>e=.returned (.int .i64 ((endsK t:Nat):Int))∧Below w.heap.size w w'
theorem l4Ends_any:∀ t:KT,EndC t:=by
 intro t
 induction t with
 | leaf n=>
  intro lo hi v w hx hok hs hh
  simp only [KT.ok,Bool.and_eq_true,decide_eq_true_eq] at hok
  obtain ⟨hn0,hn18⟩:=hok
  obtain ⟨a,cap,rfl,_,_⟩:=Sl.shape hx
  obtain ⟨b,off,rfl,hb1,hb2,hb3,hcell⟩:=hx.get 0 (by simp [KT.post])
  have hc1:w.cell? ⟨b,off,none⟩=some (.int .i64 n):=hcell
  have hlen:(KT.leaf n).post.length=1:=rfl
  rw [hlen]
  clear hx hlen hcell
  by_cases h15:n≤15
  ·have HE:=H_ (show n=((endsK (.leaf n):Nat):Int) by unfold endsK;rw [if_neg (by omega)];omega)
   go_enter Tryz.func110,Tryz.ntmps110
   go_wp2
   go_ret
   exact ⟨ret_int HE.out,B_ _ _⟩
  ·have HE:=H_ (show (0:Int)=((endsK (.leaf n):Nat):Int) by unfold endsK;rw [if_pos (by omega)];rfl)
   go_enter Tryz.func110,Tryz.ntmps110
   go_wp2
   go_ret
   exact ⟨ret_int HE.out,B_ _ _⟩
 | star x ih=>
  intro lo hi v w hx hok hs hh
  simp only [KT.size] at hs
  have hlen:(KT.star x).post.length=x.size+1:=by rw [KT.post_length];rfl
  obtain ⟨a,cap,rfl,_,hcm⟩:=Sl.shape hx
  obtain ⟨b,off,rfl⟩:=hx.notNil (by omega)
  have hc1:w.cell? ⟨b,off+x.size,none⟩=some (.int .i64 21):=by
   obtain ⟨b',off',e,_,_,_,hc⟩:=hx.get x.size (by omega)
   injection e with e
   injection e with e1 e2
   subst e1 e2
   rw [hc]
   simp [KT.post,←KT.post_length]
  rw [hlen]
  clear ih hok hx hcm
  go_enter Tryz.func110,Tryz.ntmps110
  go_wp2
  go_ret
  exact ⟨rfl,B_ _ _⟩
 | bin p x y ihx ihy=>
  intro lo hi v w hx hok hs hh
  simp only [KT.ok,Bool.and_eq_true] at hok
  obtain ⟨hokx,hoky⟩:=hok
  simp only [KT.size] at hs
  have hlen:(KT.bin p x y).post.length=x.size+y.size+1:=by rw [KT.post_length];rfl
  have HALF:=H_ (show Calls Tryz.prog 156 #[v] w (RetH fun a b w2=>Below w.heap.size w w2∧SlI lo hi w2 a x.post∧SlI lo hi w2 b y.post) from
   (l2Halves_any lo hi v 0 p x y w hx (by omega) hoky).mono (by rintro e w2 ⟨va,vb,rfl,⟨m,rfl⟩,ha,hb⟩;exact ⟨va,vb,rfl,below_drewN (B_ _ _) m,ha,hb⟩))
  obtain ⟨a,cap,rfl,_,hcm⟩:=Sl.shape hx
  obtain ⟨b,off,rfl⟩:=hx.notNil (by omega)
  have hc1:w.cell? ⟨b,off+(x.size+y.size),none⟩=some (.int .i64 (KT.op p)):=by
   obtain ⟨b',off',e,_,_,_,hc⟩:=hx.get (x.size+y.size) (by omega)
   injection e with e
   injection e with e1 e2
   subst e1 e2
   rw [hc]
   simp [KT.post,←KT.post_length]
  rw [hlen] at HALF ⊢
  have IHX:=H_ ihx
  have IHY:=H_ ihy
  have hex:=ends_le hokx
  have hey:=ends_le hoky
  have HOR:=H_ (l1EitherG (endsK x) (endsK y) (by omega) (by omega))
  have HAN:=H_ (l1BothG (endsK x) (endsK y) (by omega) (by omega))
  have HEK:=H_ (show endsK (.bin p x y)=if p then endsK x ||| endsK y else endsK x &&& endsK y from rfl)
  clear ihx ihy hx hex hey hcm
  cases p
  ·have hop:KT.op false=19:=rfl
   rw [hop] at hc1
   go_enter Tryz.func110,Tryz.ntmps110
   go_wp2_with fail
   refine HALF.out.mono ?_
   rintro e w2 ⟨va,vb,rfl,h_,ha,hb⟩
   have hs2:=h_.size
   have HB:=H_ h_
   have HA:=H_ ha
   have HY:=H_ hb
   obtain ⟨aa,ac,rfl,_,_⟩:=Sl.shape ha
   obtain ⟨ba,bc,rfl,_,_⟩:=Sl.shape hb
   clear h_ ha hb HALF
   go_wp2_with fail
   refine (IHX.out lo hi _ w2 HA.out hokx (by omega) (by omega)).mono ?_
   rintro e w3 ⟨rfl,hb⟩
   have hs3:=hb.size
   replace HB:=H_ (HB.out.trans (hb.mono HB.out.size))
   replace HY:=H_ (HY.out.below hb (by omega))
   clear hb HA
   go_wp2_with fail
   refine (IHY.out lo hi _ w3 HY.out hoky (by omega) (by omega)).mono ?_
   rintro e w4 ⟨rfl,hb⟩
   replace HB:=H_ (HB.out.trans (hb.mono HB.out.size))
   clear hb HY
   go_wp2_with fail
   refine (HAN.out w4).mono ?_
   rintro e _ ⟨rfl,rfl⟩
   go_wp2
   go_ret
   exact ⟨by rw [HEK.out];rfl,HB.out⟩
  ·have hop:KT.op true=20:=rfl
   rw [hop] at hc1
   go_enter Tryz.func110,Tryz.ntmps110
   go_wp2_with fail
   refine HALF.out.mono ?_
   rintro e w2 ⟨va,vb,rfl,h_,ha,hb⟩
   have hs2:=h_.size
   have HB:=H_ h_
   have HA:=H_ ha
   have HY:=H_ hb
   obtain ⟨aa,ac,rfl,_,_⟩:=Sl.shape ha
   obtain ⟨ba,bc,rfl,_,_⟩:=Sl.shape hb
   clear h_ ha hb HALF
   go_wp2_with fail
   refine (IHX.out lo hi _ w2 HA.out hokx (by omega) (by omega)).mono ?_
   rintro e w3 ⟨rfl,hb⟩
   have hs3:=hb.size
   replace HB:=H_ (HB.out.trans (hb.mono HB.out.size))
   replace HY:=H_ (HY.out.below hb (by omega))
   clear hb HA
   go_wp2_with fail
   refine (IHY.out lo hi _ w3 HY.out hoky (by omega) (by omega)).mono ?_
   rintro e w4 ⟨rfl,hb⟩
   replace HB:=H_ (HB.out.trans (hb.mono HB.out.size))
   clear hb HY
   go_wp2_with fail
   refine (HOR.out w4).mono ?_
   rintro e _ ⟨rfl,rfl⟩
   go_wp2
   go_ret
   exact ⟨by rw [HEK.out];rfl,HB.out⟩
noncomputable def endsV (e:List Int):Int:=if katV e then ((endsK (treeOf e):Nat):Int) else -1
theorem spec_EndsAt (lo hi:Nat) (v:Value) (es:List Int) (w:World) (hx:SlI lo hi w v es) (hm:es.length≤1048576) (hh:hi≤w.heap.size) :
  Calls Tryz.prog 58 #[v] w fun e w'=>e=.returned (.int .i64 (endsV es))∧Below w.heap.size w w':=by
 obtain ⟨a,cap,rfl,_,_⟩:=Sl.shape hx
 have HX:=H_ hx
 clear hx
 cases hk:katV es with
 | true=>
  obtain ⟨t,h1,h2,_,h4⟩:=katV_tree hk
  have HE:=H_ (show endsV es=((endsK t:Nat):Int) by rw [endsV,hk,if_pos rfl,←h2,treeOf_post h1])
  have HC:=H_ (l4Ends_any t lo hi (.slice a es.length cap) w (by rw [h2];exact HX.out) h1 (by omega) hh)
  clear h1 h2 h4
  go_enter Tryz.func58,Tryz.ntmps58
  go_wp2_with fail
  refine (spec_KatValid _ _ _ es _ HX.out (by omega)).mono ?_
  rintro e w1 ⟨rfl,rfl⟩
  rw [hk]
  clear hk
  go_wp2_with fail
  refine HC.out.mono ?_
  rintro e w2 ⟨rfl,hb⟩
  have HB:=H_ hb
  clear hb
  go_wp2
  go_ret
  exact ⟨ret_int HE.out.symm,HB.out⟩
 | false=>
  have HE:=H_ (show endsV es=-1 by rw [endsV,hk];rfl)
  go_enter Tryz.func58,Tryz.ntmps58
  go_wp2_with fail
  refine (spec_KatValid _ _ _ es _ HX.out (by omega)).mono ?_
  rintro e w1 ⟨rfl,rfl⟩
  rw [hk]
  clear hk
  go_wp2
  go_ret
  exact ⟨ret_int HE.out.symm,B_ _ _⟩
theorem endsV_kat {e:List Int} (h:katV e=true):endsV e=((endsK (treeOf e):Nat):Int)∧endsK (treeOf e)<16:=by
 refine ⟨by rw [endsV,h,if_pos rfl],?_⟩
 obtain ⟨t,h1,h2,_,_⟩:=katV_tree h
 rw [←h2,treeOf_post h1]
 exact ends_le h1
theorem impl_EndsAt (lo hi:Nat) (v:Value) (es:List Int) (w:World) (hx:SlI lo hi w v es) (hm:es.length≤1048576) (hh:hi≤w.heap.size) :
  Calls Tryz.prog 96 #[v] w fun e w'=>e=.returned (.int .i64 (endsV es))∧Below w.heap.size w w':=by
 obtain ⟨a,cap,rfl,_,_⟩:=Sl.shape hx
 have HX:=H_ hx
 clear hx
 cases hk:katV es with
 | true=>
  obtain ⟨t,h1,h2,_,h4⟩:=katV_tree hk
  have HE:=H_ (show endsV es=((endsK t:Nat):Int) by rw [endsV,hk,if_pos rfl,←h2,treeOf_post h1])
  have HC:=H_ (ends_any lo hi (.slice a es.length cap) t w (by rw [h2];exact HX.out) hh (by omega) h1)
  clear h1 h2 h4
  go_enter Tryz.func96,Tryz.ntmps96
  go_wp2_with fail
  refine (impl_KatValid _ _ _ es _ HX.out (by omega)).mono ?_
  rintro e w1 ⟨rfl,rfl⟩
  rw [hk]
  clear hk
  go_wp2_with fail
  refine HC.out.mono ?_
  rintro e w2 ⟨rfl,hb⟩
  have HB:=H_ hb
  clear hb
  go_wp2
  go_ret
  exact ⟨ret_int HE.out.symm,HB.out⟩
 | false=>
  have HE:=H_ (show endsV es=-1 by rw [endsV,hk];rfl)
  go_enter Tryz.func96,Tryz.ntmps96
  go_wp2_with fail
  refine (impl_KatValid _ _ _ es _ HX.out (by omega)).mono ?_
  rintro e w1 ⟨rfl,rfl⟩
  rw [hk]
  clear hk
  go_wp2
  go_ret
  exact ⟨ret_int HE.out.symm,B_ _ _⟩
theorem WriteByte_cells (B b:Nat) (bs:List Value) (c:Int) (w:World) (h:Lib.IsBuilderF 156 5 B b bs w) (hlen:bs.length+1≤1073741824) (hBw:B≤w.heap.size) :
  Calls Tryz.prog 143 #[.pointer (some ⟨b,0,none⟩),.int .u8 c] w fun e w'=>e=.returned .nilIface∧(Lib.BuilderAtF 156 5 B b (.pointer (some ⟨b,0,none⟩)) (bs++[.int .u8 c]) w'∧Below B w w'):=by
 obtain ⟨i0,hi,hz0,hz1,hz2⟩:=info_parts info_byte
 go_enter Tryz.func143,Tryz.ntmps143
 go_wp2_with (go_at_call 185;refine (copyCheck_any B b bs _ h).mono ?_)
 rintro e w1 ⟨rfl,h1,hb1⟩
 obtain ⟨hB,v,hbk,hown,hne⟩:=h1
 have c0:w1.cell? ⟨b,0,none⟩=some (.pointer (some ⟨b,0,none⟩)):=by rw [Lib.cell_of_heap hbk];rfl
 have c1:w1.cell? ⟨b,1,none⟩=some v:=by rw [Lib.cell_of_heap hbk];rfl
 go_wp2_with (at_builtin;refine wpList_append_ownF _ rfl _ _ 40 rfl B 5 i0 (.int .u8 0) 1 1 Tryz.underlying40 hi hz0 hz1 hz2 rfl (by decide) _ _ _ rfl (hown.alloc _) ⟨w1.heap.size,0,none⟩ 1 1 [.int .u8 c] rfl rfl ?c1 ?c2 ?c3 ?c4 ?c5 ?_)
 case c1=>
  intro j u hj
  match j,hj with
  | 0,hj=>simp at hj;subst hj;simp [Addr.add]
 case c2=>intro u hu;simp at hu;subst hu;rfl
 case c3=>unfold maxLen;omega
 case c4=>omega
 case c5=>have:=hb1.size;simp;omega
 intro v' w2 hown' hgrow _
 have hlt:b<w1.heap.size:=by
  rcases Nat.lt_or_ge b w1.heap.size with h'|h'
  ·exact h'
  ·simp [Array.getElem?_eq_none h'] at hbk
 have hb2:w2.heap[b]?=some (.cells #[.pointer (some ⟨b,0,none⟩),v] 156 (0,0)):=by
  rw [hgrow.block b (by simp;omega) (fun e=>hne e.symm),Lib.alloc_old w1 _ b hlt]
  exact hbk
 have d0:w2.cell? ⟨b,0,none⟩=some (.pointer (some ⟨b,0,none⟩)):=by rw [Lib.cell_of_heap hb2];rfl
 have d1:w2.cell? ⟨b,1,none⟩=some v:=by rw [Lib.cell_of_heap hb2];rfl
 have f1:w2.frozen? ⟨b,1,none⟩=false:=Lib.frozen_of_heap hb2 1
 obtain ⟨g,cap,rfl⟩:∃ g cap,v'=.slice (some ⟨g,0,none⟩) (bs.length+1) cap:=by
  rcases hown'.2 with ⟨_,h0⟩|⟨g,cap,cur,fz,hv,_⟩
  ·omega
  ·exact ⟨g,cap,hv⟩
 go_wp2
 go_ret
 refine ⟨rfl,?_,?_⟩
 ·exact Lib.BuilderAtF.put (T:=156) (e:=5) hB hb2 (bs':=bs++[.int .u8 c]) (by simpa using hown') (by decide)
 ·exact ((hb1.alloc (by have:=hb1.size;omega) _).grown hgrow (by have:=hb1.size;simp;omega) (fun k hk=>(hown.lt k hk).1)).setCell (p:=⟨b,1,none⟩) hB _
theorem WriteByte_any (B b:Nat) (bs:List UInt8) (c:Int) (w:World) (h:Bld B b bs w) (hlen:bs.length+1≤1073741824) (hBw:B≤w.heap.size) (c0:0≤c) (c1:c≤255) :
  Calls Tryz.prog 143 #[.pointer (some ⟨b,0,none⟩),.int .u8 c] w fun e w'=>e=.returned .nilIface∧Bld B b (bs++[UInt8.ofNat c.toNat]) w'∧Below B w w':=by
 refine (WriteByte_cells B b _ c w h (by rw [Lib.byteCells_length];exact hlen) hBw).mono ?_
 rintro e w' ⟨rfl,h1,h2⟩
 refine ⟨rfl,.inr ?_,h2⟩
 have:Lib.byteCells bs++[.int .u8 c]=Lib.byteCells (bs++[UInt8.ofNat c.toNat]):=by
  simp [Lib.byteCells]
  omega
 rw [←this]
 exact h1
theorem impl_TraceText (lo hi:Nat) (v:Value) (xs:List Int) (w:World) (hx:SlI lo hi w v xs) (hm:xs.length≤1048576) (hhi:hi≤w.heap.size) :
  Calls Tryz.prog 92 #[v] w fun e w'=>e=.returned (.string ⟨(trText xs).toArray⟩)∧Below w.heap.size w w':=by
 have hx0:=hx
 obtain ⟨a,cap,rfl,hcap,hcm,hc⟩:=hx.open
 clear hx hcm hcap hc
 cases hv:traceV xs
 ·have HX:=H_ hx0
  clear hx0
  go_enter Tryz.func92,Tryz.ntmps92
  go_wp2_with (go_at_call 142;refine (impl_TraceValid _ _ _ xs _ HX.out hm).mono ?_;rintro e w' ⟨rfl,rfl⟩)
  go_ret
  exact ⟨ret_str (a:=[]) (by simp [trText,hv]),B_ _ _⟩
 ·have HX:=H_ hx0
  clear hx0
  have hlen:=(traceV_len hv).2
  go_enter Tryz.func92,Tryz.ntmps92
  go_wp2_with (go_at_call 142;refine (impl_TraceValid _ _ _ xs _ HX.out hm).mono ?_;rintro e w' ⟨rfl,rfl⟩)
  go_loopw [11] (fun i wr=>∃ k:Nat,∃ l:List UInt8,k≤xs.length∧i=.int .i64 k∧l.length≤k∧Hid (l=trGo 0 (xs.take k))∧Bld w.heap.size w.heap.size l wr∧Below w.heap.size w wr) (fun i _=>xs.length-(intOf i).toNat)
  case atStart=>exact ⟨0,[],by omega,rfl,le_ _,H_ rfl,Bld_new w,(B_ _ _).alloc (le_ _) _⟩
  case round=>
   obtain ⟨k,l,hk,rfl,hll,HL,HB,hb⟩:=hrel
   have HB':=H_ HB
   clear HB
   have hx1:=HX.out.below hb hhi
   by_cases hlt:k<xs.length
   ·obtain ⟨b,off,rfl,_,_,hbs,hcell⟩:=hx1.get k hlt
    have hsz:=hb.size
    have HBe:=H_ hb
    clear hx1 hb
    by_cases hp:k%2=0
    ·have hp1:((k:Int)%2==0)=true:=by simp;omega
     obtain ⟨hr1,hr2⟩:=traceV_even hv k hlt hp
     have HT:=H_ (show trByte k xs[k]=UInt8.ofNat (48+xs[k]).toNat by simp [trByte,hp])
     clear hp
     go_wp2_with (go_at_call 143;refine (WriteByte_any w.heap.size w.heap.size l _ _ HB'.out (by omega) hsz (by omega) (by omega)).mono ?_;rintro e w1 ⟨rfl,h1,h2⟩)
     go_roundw
     case rel=>exact ⟨k+1,l++[UInt8.ofNat (48+xs[k]).toNat],by omega,by go_num,by simp;omega,H_ (by rw [trGo_take xs k hlt,HL.out,HT.out]),h1,HBe.out.trans h2⟩
     case measure=>simp [intOf];omega
    ·have hp1:((k:Int)%2==0)=false:=by simp;omega
     obtain ⟨hr1,hr2⟩:=traceV_odd hv k hlt hp
     have HT:=H_ (show trByte k xs[k]=UInt8.ofNat (97+xs[k]-16).toNat by simp [trByte,hp];congr 2;omega)
     clear hp
     go_wp2_with (go_at_call 143;refine (WriteByte_any w.heap.size w.heap.size l _ _ HB'.out (by omega) hsz (by omega) (by omega)).mono ?_;rintro e w1 ⟨rfl,h1,h2⟩)
     go_roundw
     case rel=>exact ⟨k+1,l++[UInt8.ofNat (97+xs[k]-16).toNat],by omega,by go_num,by simp;omega,H_ (by rw [trGo_take xs k hlt,HL.out,HT.out]),h1,HBe.out.trans h2⟩
     case measure=>simp [intOf];omega
   ·obtain rfl:k=xs.length:=by omega
    have hsz:=hb.size
    have HBe:=H_ hb
    clear hx1 hb
    go_wp2_with (go_at_call 144;refine (String_any w.heap.size w.heap.size l _ HB'.out hsz).mono ?_;rintro e w1 ⟨rfl,h1⟩)
    go_ret
    exact ⟨ret_str (by rw [HL.out,List.take_length];simp [trText,hv]),HBe.out.trans h1⟩
def strs (l:List (List UInt8)):List Value:=l.map fun x=>.string ⟨x.toArray⟩
theorem strs_length (l:List (List UInt8)):(strs l).length=l.length:=by simp [strs]
theorem strs_append (l m:List (List UInt8)):strs (l++m)=strs l++strs m:=by simp [strs]
abbrev SlT (lo hi:Nat) (w:World) (v:Value) (xs:List (List UInt8)):Prop:=Sl 1 lo hi w v xs.length (strs xs)
theorem SlT.get {lo hi n cap:Nat} {w:World} {a:Option Addr} {xs:List (List UInt8)} (h:SlT lo hi w (.slice a n cap) xs) (i:Nat) (hi':i<xs.length) :
  ∃ b off,a=some ⟨b,off,none⟩∧lo≤b∧b<hi∧b<w.heap.size∧w.cell? ⟨b,off+i,none⟩=some (.string ⟨xs[i].toArray⟩):=by
 obtain ⟨a',cap',e,_,_,_,_,hc⟩:=h
 injection e with e1 _ _
 subst e1
 obtain ⟨b,off,e2,k1,k2,k3,k4⟩:=hc i (by rw [strs_length];exact hi')
 exact ⟨b,off,e2,k1,k2,k3,by rw [k4];simp [strs,hi']⟩
def joinC:List (List UInt8)→List UInt8
 | []=>[]
 | x :: r=>r.foldl (fun s y=>s++44 :: y) x
theorem joinC_len (l:List (List UInt8)) (hm:∀ x∈l,x.length≤1000):(joinC l).length≤1001*l.length:=by
 cases l with
 | nil=>simp [joinC]
 | cons x r=>
  have h1:=hm x (by simp)
  have h:∀ (r:List (List UInt8)) (s:List UInt8),(∀ y∈r,y.length≤1000)→(r.foldl (fun s y=>s++44 :: y) s).length≤s.length+1001*r.length:=by
   intro r
   induction r with
   | nil=>intro s _;simp
   | cons y r ih=>
    intro s hy
    have k1:=hy y (by simp)
    have k2:=ih (s++44 :: y) fun z hz=>hy z (by simp [hz])
    simp only [List.foldl_cons,List.length_cons,List.length_append] at k2 ⊢
    omega
  have:=h r x fun y hy=>hm y (by simp [hy])
  simp only [joinC,List.length_cons]
  omega
theorem join_joinC (l:List (List UInt8)):Lib.join l [44]=joinC l:=by
 cases l with
 | nil=>rfl
 | cons x r=>
  have h:∀ (r:List (List UInt8)) (s:List UInt8),Lib.join (s :: r) [44]=r.foldl (fun s y=>s++44 :: y) s:=by
   intro r
   induction r with
   | nil=>intro s;simp [Lib.join]
   | cons y r ih=>
    intro s
    rw [List.foldl_cons,←ih]
    cases r<;>simp [Lib.join]
  exact h r x
theorem Join_any (lo hi n cap:Nat) (a:Option Addr) (xs:List (List UInt8)) (w:World) (hx:SlT lo hi w (.slice a n cap) xs) (h0:xs≠[]) (hl:xs.length≤100) (hm:∀ x∈xs,x.length≤1000) :
  Calls Tryz.prog 94 #[.slice a n cap,.string ⟨#[44]⟩] w fun e w'=>e=.returned (.string ⟨(joinC xs).toArray⟩)∧Below w.heap.size w w':=by
 obtain ⟨_,_,hq,hn,_⟩:=Sl.shape hx
 injection hq with _ q1 q2
 subst q1 q2
 have hpos:0<xs.length:=by cases xs with | nil=>exact absurd rfl h0 | cons=>simp
 obtain ⟨b,o,rfl,_,_,hb,_⟩:=hx.get 0 hpos
 have e1:((xs.map fun x=>(⟨x.toArray⟩:ByteArray)).map fun z=>z.data.toList)=xs:=by
  rw [List.map_map]
  exact (List.map_congr_left (g:=id) fun x _=>by simp).trans (List.map_id _)
 have h:=Tryz.strings_Join b o cap (xs.map fun x=>⟨x.toArray⟩) ⟨#[44]⟩ w (fun j x hj=>by
  rw [List.getElem?_map] at hj
  obtain ⟨y,hy,rfl⟩:=Option.map_eq_some_iff.1 hj
  obtain ⟨hjl,rfl⟩:=List.getElem?_eq_some_iff.1 hy
  obtain ⟨b',o',e,_,_,_,hc⟩:=hx.get j hjl
  injection e with e
  injection e with e2 e3
  subst e2 e3
  exact hc) hb (by simp;omega) (by simpa using hn) (by
   rw [e1]
   have:=joinC_len xs hm
   rw [show (⟨#[44]⟩:ByteArray).data.toList=[44] from rfl,join_joinC]
   omega)
 rw [e1,show (⟨#[44]⟩:ByteArray).data.toList=[44] from rfl,join_joinC,List.length_map] at h
 exact h
end Go.Proofs.YtfnnhimopokpnaaGreatDoor
