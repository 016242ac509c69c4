/- Lemmas for this seat; no condition. -/
import Derived.Test.YtfnnhimopokpnaaGreatDoorHABE
namespace Go.Proofs.YtfnnhimopokpnaaGreatDoor
open Go.RowKit
set_option maxRecDepth 100000
set_option maxHeartbeats 0
set_option linter.unusedVariables false
theorem prow_top {a b:Au} {na nb:Nat} (ha:∀ s m,m<12→stepU a s m<na) (hb:∀ s m,m<12→stepU b s m<nb) {o:List (Nat × Nat)} {p:Nat × Nat} (h:∀ q∈o,q.1<na∧q.2<nb):∀ k,k≤12→∀ q∈prow a b o p k,q.1<na∧q.2<nb
 | 0,_=>h
 | k+1,hk=>by
  have ih:=prow_top ha hb (p:=p) h k (by omega)
  intro q hq
  unfold prow at hq
  split at hq
  ·exact ih q hq
  ·rcases List.mem_append.1 hq with hq|hq
   ·exact ih q hq
   ·simp only [List.mem_singleton] at hq
    subst hq
    exact ⟨ha _ _ (by omega),hb _ _ (by omega)⟩
theorem pairGo_top {a b:Au} {na nb:Nat} (ha:∀ s m,m<12→stepU a s m<na) (hb:∀ s m,m<12→stepU b s m<nb):∀ (f i:Nat) (o ps:List (Nat × Nat)),(∀ q∈o,q.1<na∧q.2<nb)→o.length≤100→pairGo a b f i o=some ps→(∀ q∈ps,q.1<na∧q.2<nb)∧ps.length≤100
 | 0,i,o,ps,h,hl,e=>by
  simp only [pairGo,Option.some.injEq] at e
  subst e
  exact ⟨h,hl⟩
 | f+1,i,o,ps,h,hl,e=>by
  unfold pairGo at e
  split at e
  ·split at e
   ·cases e
   ·exact pairGo_top ha hb f _ _ _ (prow_top ha hb h 12 (le_ _)) (by omega) e
  ·injection e with e
   subst e
   exact ⟨h,hl⟩
theorem pairsX_top (e f:List Int):(∀ p∈pairsX e f,p.1<2 ^ (autV e).ends.length∧p.2<2 ^ (autV f).ends.length)∧(pairsX e f).length≤100:=by
 unfold pairsX
 cases h:pairsV e f with
 | none=>simp
 | some ps=>
  unfold pairsV at h
  split at h
  ·cases h
  ·rename_i hne
   have h1:0<(autV e).ends.length:=List.length_pos_iff.2 fun x=>hne (.inl x)
   have h2:0<(autV f).ends.length:=List.length_pos_iff.2 fun x=>hne (.inr x)
   exact pairGo_top (fun s m hm=>autV_top e s m hm) (fun s m hm=>autV_top f s m hm) _ _ _ _ (by
    intro q hq
    simp only [List.mem_singleton] at hq
    subst hq
    exact ⟨Nat.one_lt_two_pow (by omega),Nat.one_lt_two_pow (by omega)⟩) (by simp) h
theorem okX_spec (e f:List Int):(if okX e f (pairsX e f) then (1:Int) else -1)=(if okP (autV e) (autV f) (pairsX e f) then 1 else -1):=by
 unfold okX
 by_cases h:(autV e).ends=[]∨(autV f).ends=[]
 ·rw [pairsX_shut h]
  have:okP (autV e) (autV f) []=false:=by
   cases hk:okP (autV e) (autV f) []
   ·rfl
   ·have:=(okP_open hk).2.1
    simp at this
  rw [this]
  simp
 ·have h1:¬(autV e).ends=[]:=fun x=>h (.inl x)
  have h2:¬(autV f).ends=[]:=fun x=>h (.inr x)
  simp [h1,h2]
theorem spec_Equal (lo hi lo' hi':Nat) (ve vf:Value) (e f:List Int) (w:World) (hx:SlI lo hi w ve e) (hy:SlI lo' hi' w vf f) (hh:hi≤w.heap.size) (hh':hi'≤w.heap.size) (hm:e.length≤1048576) (hm':f.length≤1048576) :
  Calls Tryz.prog 56 #[ve,vf] w fun r w'=>r=.returned (.int .i64 (equalV e f))∧Below w.heap.size w w':=by
 have HX:=H_ hx
 have HY:=H_ hy
 have HEV:=H_ (equalV_spec e f)
 have HOK:=H_ (okX_spec e f)
 clear hx hy
 go_enter Tryz.func56,Tryz.ntmps56
 go_wp2_with fail
 refine (spec_Differ _ _ _ _ _ _ e f w HX.out HY.out hh hh' hm hm').mono ?_
 rintro e1 w1 ⟨r,rfl,hor,hb1⟩
 have hz1:=hb1.size
 have HB1:=H_ hb1
 clear hb1
 rcases hor with ⟨t,v4,ht,rfl,_,_⟩|⟨hn,g,rfl⟩
 ·have HE:=H_ (show equalV e f=0 from by rw [HEV.out,ht];rfl)
  clear ht
  go_wp2
  go_ret
  exact ⟨by rw [HE.out];rfl,HB1.out⟩
 ·have HE:=H_ (show equalV e f=if okX e f (pairsX e f) then 1 else -1 from by rw [HEV.out,hn,HOK.out];rfl)
  clear hn
  go_wp2_with fail
  refine (spec_PairsOf _ _ _ _ _ _ e f w1 (HX.out.below HB1.out hh) (HY.out.below HB1.out hh') (by omega) (by omega) hm hm').mono ?_
  rintro e2 w2 ⟨vp,rfl,hp,hb2⟩
  have hz2:=hb2.size
  have HP:=H_ hp
  have HB2:=H_ (HB1.out.trans (hb2.mono hz1))
  obtain ⟨pg,pc,rfl⟩:=hp.shape
  clear hp hb2
  go_wp2_with fail
  refine (spec_PairsOk _ _ _ _ _ _ _ _ e f (pairsX e f) w2 (HX.out.below HB2.out hh) (HY.out.below HB2.out hh') HP.out (by omega) (by omega) hm hm' (pairsX_top e f).2 (pairsX_top e f).1).mono ?_
  rintro e3 w3 ⟨rfl,hb3⟩
  have HB3:=H_ (HB2.out.trans (hb3.mono (by omega)))
  clear hb3
  cases hk:okX e f (pairsX e f)
  ·rw [hk] at HE
   clear hk
   go_wp2
   go_ret
   exact ⟨by rw [HE.out];rfl,HB3.out⟩
  ·rw [hk] at HE
   clear hk
   go_wp2
   go_ret
   exact ⟨by rw [HE.out];rfl,HB3.out⟩
def Sld (w:World) (v0 v1 v2 v3:Value) (D:Dsk) (wx:World):Prop:=Blk (w.heap.size+1) (.cells #[v0,v1,v2,v3] 31) wx∧Below w.heap.size w wx∧DeskOwn w.heap.size wx.heap.size wx v0 v1 v2 v3 D
theorem prfT_one {ms:List Mv} (h:0<ms.length):prfT (ms.take 1)=mvText ms[0]:=by
 cases ms with
 | nil=>simp at h
 | cons m r=>simp [prfT]
theorem prfT_snoc {ms:List Mv} {k:Nat} (hk:k<ms.length) (hk1:1≤k):prfT (ms.take (k+1))=prfT (ms.take k)++44 :: mvText ms[k]:=by
 rw [List.take_succ_eq_append_getElem hk]
 cases h:ms.take k with
 | nil=>
  have:=congrArg List.length h
  rw [List.length_take,List.length_nil] at this
  omega
 | cons m r=>simp [prfT,List.foldl_append]
theorem sld_of {w W:World} {x0 x1 x2 x3 v0 v1 v2 v3:Value} {D:Dsk} {lo hi:Nat} (h:Blk (w.heap.size+1) (.cells #[x0,x1,x2,x3] 31) W) (hb:Below w.heap.size w W) (ho:DeskOwn lo hi W v0 v1 v2 v3 D) (hl:w.heap.size+2≤lo) (hh:hi≤W.heap.size) :
  Sld w v0 v1 v2 v3 D ((((W.setCell ⟨w.heap.size+1,0,none⟩ v0).setCell ⟨w.heap.size+1,1,none⟩ v1).setCell ⟨w.heap.size+1,2,none⟩ v2).setCell ⟨w.heap.size+1,3,none⟩ v3):=by
 have hO:=Outside.set4 (w.heap.size+1) W v0 v1 v2 v3
 have hz:=hO.size
 exact ⟨h.set4 v0 v1 v2 v3,Below.outside hb hO (by omega) hb.size,(ho.outside hO (.inr (by omega))).wide (by omega) (by omega)⟩
theorem sld_al {w wx:World} {v0 v1 v2 v3:Value} {D:Dsk} (h:Sld w v0 v1 v2 v3 D wx) (o:Obj):Sld w v0 v1 v2 v3 D (wx.alloc o):=by
 obtain ⟨h1,h2,h3⟩:=h
 have hz:=h2.size
 refine ⟨h1.below (al_below wx o) h1.lt,h2.trans ((al_below wx o).mono hz),(h3.below (al_below wx o) (le_ _)).wide (le_ _) (al_below wx o).size⟩
theorem spec_DeskLine_eq (lo hi:Nat) (a b c d:Value) (D:Dsk) (l:List UInt8) (s:ByteArray) (hs:s=⟨l.toArray⟩) (w:World) (hx:DeskAt lo hi w a b c d D) (hh:hi≤w.heap.size) (hm:D.size≤1048576) (hl:l.length≤2097152) (hv:deskV D=true) (hr:readAc l=none) (hle:l=[101,113,117,97,108]) :
  Calls Tryz.prog 21 #[aggD a b c d,.string s] w (RetDS fun a' b' c' d' s' w'=>s'=⟨(askV D l).toArray⟩∧DeskOwn w.heap.size w'.heap.size w' a' b' c' d' D∧Below w.heap.size w w'):=by
 subst hs
 have HM:=H_ hm
 obtain ⟨w0,hw0⟩:∃ w0,w0=(w.alloc (.cells #[a,b,c,d] 31)).alloc (.cells #[.slice none 0 0,.slice none 0 0,.slice none 0 0,.slice none 0 0] 31):=⟨_,rfl⟩
 have hb0:Below w.heap.size w w0:=by rw [hw0];exact ((B_ _ _).alloc (le_ _) _).alloc (by simp) _
 have hs0:w0.heap.size=w.heap.size+2:=by rw [hw0];simp
 have K1:Hid (Blk w.heap.size (.cells #[a,b,c,d] 31) w0):=by
  rw [hw0]
  exact H_ ((Blk.new w _).below ((B_ (w.alloc _).heap.size _).alloc (le_ _) _) (by simp))
 have K3:Hid (Blk (w.heap.size+1) (.cells #[.slice none 0 0,.slice none 0 0,.slice none 0 0,.slice none 0 0] 31) w0):=by
  have h:=Blk.new (w.alloc (.cells #[a,b,c,d] 31)) (.cells #[.slice none 0 0,.slice none 0 0,.slice none 0 0,.slice none 0 0] 31)
  rw [alloc_size] at h
  rw [hw0];exact H_ h
 have HX:=H_ (hx.below hb0 hh)
 have HB:=H_ hb0
 have HW0:=H_ hw0
 have HV:=H_ hv
 have HRA:=H_ hr
 have HLE:=H_ hle
 clear hx hb0 hw0 hv hr hle
 have d0:=K1.out.cell 0
 have d1:=K1.out.cell 1
 have d2:=K1.out.cell 2
 have d3:=K1.out.cell 3
 go_enter Tryz.func21,Tryz.ntmps21
 go_wp2_with (rw [←HW0.out])
 refine (spec_DeskValid _ _ a b c d D w0 HX.out (by omega) HM.out).mono ?_
 rintro e1 w1 ⟨rfl,hb1⟩
 rw [HV.out]
 have hs1:=hb1.size
 replace HB:=H_ (HB.out.trans (hb1.mono (by omega)))
 replace K1:=H_ (K1.out.below hb1 K1.out.lt)
 replace K3:=H_ (K3.out.below hb1 K3.out.lt)
 replace HX:=H_ (HX.out.below hb1 (by omega))
 clear hb1 d0 d1 d2 d3
 have hk:=deskV_kat HV.out
 have HW:=H_ (spec_l10With _ _ _ _ a b c d c D D.made w1 HX.out (by omega) HM.out HX.out.made (by omega) (by have:=HM.out;unfold Dsk.size at this;omega) hk.1)
 rw [hk.2,Option.getD_some] at HW
 have hmade:=(deskV_parts HV.out).2.2.2.1
 have d0:=K1.out.cell 0
 have d1:=K1.out.cell 1
 have d2:=K1.out.cell 2
 have d3:=K1.out.cell 3
 clear hk
 go_wp2_with fail
 refine HW.out.mono ?_
 rintro e2 w2 ⟨x0,x1,x2,x3,rfl,o_,hb2⟩
 obtain ⟨z0,z1,z2,z3,z4,z5,z6,z7,i0,i1,i2,i3⟩:=o_.open
 subst i0 i1 i2 i3
 have hs2:=hb2.size
 replace HB:=H_ (HB.out.trans (hb2.mono (by omega)))
 replace K1:=H_ (K1.out.below hb2 K1.out.lt)
 replace K3:=H_ (K3.out.below hb2 K3.out.lt)
 replace HX:=H_ (HX.out.below hb2 (by omega))
 have O6:=H_ (show DeskOwn w1.heap.size w2.heap.size w2 (.slice z0 D.first.length z1) (.slice z2 D.goal.length z3) (.slice z4 D.made.length z5) (.slice z6 D.now.length z7) D from o_)
 clear hb2 o_ HW d0 d1 d2 d3
 obtain ⟨w3,hw3⟩:∃ w3,w3=w2.alloc (.cells #[.slice z0 D.first.length z1,.slice z2 D.goal.length z3,.slice z4 D.made.length z5,.slice z6 D.now.length z7] 31):=⟨_,rfl⟩
 obtain ⟨hb3,K6_,hs3⟩:=box_facts2 hw3
 have K6:=H_ K6_
 replace HB:=H_ (HB.out.trans (hb3.mono (by omega)))
 replace K1:=H_ (K1.out.below hb3 K1.out.lt)
 replace K3:=H_ (K3.out.below hb3 K3.out.lt)
 replace HX:=H_ (HX.out.below hb3 (by omega))
 replace O6:=H_ (O6.out.below hb3 (le_ _))
 have HW3:=H_ hw3
 clear hb3 K6_ hw3
 go_wp2_with (rw [←HW3.out])
 refine (spec_ReadAct l _ rfl w3 hl).mono ?_
 rintro e4 w4 ⟨rfl,hb4⟩
 have hs4:=hb4.size
 replace HB:=H_ (HB.out.trans (hb4.mono (by omega)))
 replace HX:=H_ (HX.out.below hb4 (by omega))
 replace O6:=H_ (O6.out.below hb4 (by omega))
 replace K1:=H_ (K1.out.below hb4 K1.out.lt)
 replace K3:=H_ (K3.out.below hb4 K3.out.lt)
 replace K6:=H_ (K6.out.below hb4 K6.out.lt)
 clear hb4 HW3
 rw [HRA.out,rdAc_none]
 obtain ⟨w5,hw5⟩:∃ w5,w5=w4.alloc (.cells #[.int .i64 0,.int .i64 0,.bool false,.int .i64 0,.int .i64 0] 69):=⟨_,rfl⟩
 obtain ⟨hb5,KA_,hs5⟩:=box_facts2 hw5
 replace HB:=H_ (HB.out.trans (hb5.mono (by omega)))
 replace HX:=H_ (HX.out.below hb5 (by omega))
 replace O6:=H_ (O6.out.below hb5 (by omega))
 replace K1:=H_ (K1.out.below hb5 K1.out.lt)
 replace K3:=H_ (K3.out.below hb5 K3.out.lt)
 replace K6:=H_ (K6.out.below hb5 K6.out.lt)
 clear hb5 KA_ HRA
 unfold Dsk.size at hm
 go_upto_region 10 with fail
 simp only [←hw5]
 clear hw5
 have hle:=HLE.out
 subst hle
 have hgs:∀ w',Below w5.heap.size w5 w'→w'.cell? ⟨w2.heap.size,0,none⟩=some (.slice z0 D.first.length z1)∧w'.cell? ⟨w2.heap.size,1,none⟩=some (.slice z2 D.goal.length z3)∧w'.cell? ⟨w2.heap.size,2,none⟩=some (.slice z4 D.made.length z5)∧w'.cell? ⟨w2.heap.size,3,none⟩=some (.slice z6 D.now.length z7)∧w'.cell? ⟨w.heap.size,0,none⟩=some a∧w'.cell? ⟨w.heap.size,1,none⟩=some b∧w'.cell? ⟨w.heap.size,2,none⟩=some c∧w'.cell? ⟨w.heap.size,3,none⟩=some d:=fun w' hb=>⟨(K6.out.below hb K6.out.lt).cell 0,(K6.out.below hb K6.out.lt).cell 1,(K6.out.below hb K6.out.lt).cell 2,(K6.out.below hb K6.out.lt).cell 3,(K1.out.below hb K1.out.lt).cell 0,(K1.out.below hb K1.out.lt).cell 1,(K1.out.below hb K1.out.lt).cell 2,(K1.out.below hb K1.out.lt).cell 3⟩
 have hbA:Below w5.heap.size w5 w5.drew:=Below.drew (B_ _ _)
 have hS:=hgs w5 (B_ _ _)
 have hSA:=hgs _ hbA
 have HGS:=H_ hgs
 have hdz:w5.drew.heap.size=w5.heap.size:=rfl
 have HXd:=H_ (HX.out.below hbA (by omega))
 clear hgs
 have hbB:Below w5.heap.size w5 (w5.alloc (.cells #[.string ⟨#[111,112,101,110]⟩,.string ⟨#[110,111]⟩,.string ⟨#[121,101,115]⟩] 9)).drew:=Below.drew (al_below _ _)
 have hSB:=HGS.out _ hbB
 have hdzB:(w5.alloc (.cells #[.string ⟨#[111,112,101,110]⟩,.string ⟨#[110,111]⟩,.string ⟨#[121,101,115]⟩] 9)).drew.heap.size=w5.heap.size+1:=alloc_size _ _
 have KL:=H_ ((Blk.new w5 (.cells #[.string ⟨#[111,112,101,110]⟩,.string ⟨#[110,111]⟩,.string ⟨#[121,101,115]⟩] 9)).below (Below.drew (B_ (w5.alloc (.cells #[.string ⟨#[111,112,101,110]⟩,.string ⟨#[110,111]⟩,.string ⟨#[121,101,115]⟩] 9)).heap.size _)) (by rw [alloc_size];omega))
 have HEQ:=H_ (fun w' (hb:Below w5.heap.size w5 w')=>spec_Equal _ _ _ _ _ _ D.now D.goal w' (HX.out.now.below hb (by omega)) (HX.out.goal.below hb (by omega)) (by have:=hb.size;omega) (by have:=hb.size;omega) (by omega) (by omega))
 have HER:=H_ (equal_range D.now D.goal)
 obtain ⟨i,hi⟩:∃ i,i=equalV D.now D.goal:=⟨_,rfl⟩
 have HAS:=H_ (show askV D [101,113,117,97,108]=eqT i by rw [askV_equal,hi])
 rw [←hi] at HEQ HER
 clear hi
 go_upto_region 23 with fail
 go_cut [5] (fun v wx=>v=.string ⟨(eqT i).toArray⟩∧Hid (Sld w (.slice z0 D.first.length z1) (.slice z2 D.goal.length z3) (.slice z4 D.made.length z5) (.slice z6 D.now.length z7) D wx))
 case first=>
  rcases HER.out with rfl|rfl|rfl
  all_goals (
   have hw0_:IntKind.i64.wrap (0:Int)=0:=by decide
   have hw1_:IntKind.i64.wrap (1:Int)=1:=by decide
   have hw2_:IntKind.i64.wrap (2:Int)=2:=by decide
   conv in (Oper.mk (some 93) _ _ _ _ _)=>change id _
   first
    | (go_region_held3 (fun w'=>w'.cell? ⟨w2.heap.size,0,none⟩=some (.slice z0 D.first.length z1)∧w'.cell? ⟨w2.heap.size,1,none⟩=some (.slice z2 D.goal.length z3)∧w'.cell? ⟨w2.heap.size,2,none⟩=some (.slice z4 D.made.length z5)∧w'.cell? ⟨w2.heap.size,3,none⟩=some (.slice z6 D.now.length z7)∧w'.cell? ⟨w.heap.size,0,none⟩=some a∧w'.cell? ⟨w.heap.size,1,none⟩=some b∧w'.cell? ⟨w.heap.size,2,none⟩=some c∧w'.cell? ⟨w.heap.size,3,none⟩=some d) (first | with_reducible assumption | go_keep) (first
      | (go_at_call 56;refine (HEQ.out w5.drew hbA).mono ?_;rintro e7 w7 ⟨rfl,hb_⟩;(have hs7:=hb_.size);(have hb7:=hbA.trans (hb_.mono (by omega)));(have hS7:=HGS.out _ hb7);(have hbL:=hb7.trans ((al_below w7 (.cells #[.string ⟨#[111,112,101,110]⟩,.string ⟨#[110,111]⟩,.string ⟨#[121,101,115]⟩] 9)).mono (by omega)));(have hzL:(w7.alloc (.cells #[.string ⟨#[111,112,101,110]⟩,.string ⟨#[110,111]⟩,.string ⟨#[121,101,115]⟩] 9)).heap.size=w7.heap.size+1:=alloc_size _ _);(have hSL:=HGS.out _ hbL);(have kl:=Blk.new w7 (.cells #[.string ⟨#[111,112,101,110]⟩,.string ⟨#[110,111]⟩,.string ⟨#[121,101,115]⟩] 9));(have l0a:=kl.cell 0);(have l1a:=kl.cell 1);(have l2a:=kl.cell 2);(have k3a:=K3.out.below hbL K3.out.lt);(have c0a:=k3a.cell 0);(have c1a:=k3a.cell 1);(have c2a:=k3a.cell 2);(have c3a:=k3a.cell 3);(have f0a:=k3a.free 0);(have f1a:=k3a.free 1);(have f2a:=k3a.free 2);(have f3a:=k3a.free 3);(have hOa:=Outside.set4 (w.heap.size+1) (w7.alloc (.cells #[.string ⟨#[111,112,101,110]⟩,.string ⟨#[110,111]⟩,.string ⟨#[121,101,115]⟩] 9)) (.slice z0 D.first.length z1) (.slice z2 D.goal.length z3) (.slice z4 D.made.length z5) (.slice z6 D.now.length z7));(have k6a:=(K6.out.below hbL K6.out.lt).outside hOa (.inr (by omega)));(have k1a:=(K1.out.below hbL K1.out.lt).outside hOa (.inl (by omega)));(have hSsa:(((((w7.alloc (.cells #[.string ⟨#[111,112,101,110]⟩,.string ⟨#[110,111]⟩,.string ⟨#[121,101,115]⟩] 9)).setCell ⟨w.heap.size+1,0,none⟩ (.slice z0 D.first.length z1)).setCell ⟨w.heap.size+1,1,none⟩ (.slice z2 D.goal.length z3)).setCell ⟨w.heap.size+1,2,none⟩ (.slice z4 D.made.length z5)).setCell ⟨w.heap.size+1,3,none⟩ (.slice z6 D.now.length z7)).cell? ⟨w2.heap.size,0,none⟩=some (.slice z0 D.first.length z1)∧(((((w7.alloc (.cells #[.string ⟨#[111,112,101,110]⟩,.string ⟨#[110,111]⟩,.string ⟨#[121,101,115]⟩] 9)).setCell ⟨w.heap.size+1,0,none⟩ (.slice z0 D.first.length z1)).setCell ⟨w.heap.size+1,1,none⟩ (.slice z2 D.goal.length z3)).setCell ⟨w.heap.size+1,2,none⟩ (.slice z4 D.made.length z5)).setCell ⟨w.heap.size+1,3,none⟩ (.slice z6 D.now.length z7)).cell? ⟨w2.heap.size,1,none⟩=some (.slice z2 D.goal.length z3)∧(((((w7.alloc (.cells #[.string ⟨#[111,112,101,110]⟩,.string ⟨#[110,111]⟩,.string ⟨#[121,101,115]⟩] 9)).setCell ⟨w.heap.size+1,0,none⟩ (.slice z0 D.first.length z1)).setCell ⟨w.heap.size+1,1,none⟩ (.slice z2 D.goal.length z3)).setCell ⟨w.heap.size+1,2,none⟩ (.slice z4 D.made.length z5)).setCell ⟨w.heap.size+1,3,none⟩ (.slice z6 D.now.length z7)).cell? ⟨w2.heap.size,2,none⟩=some (.slice z4 D.made.length z5)∧(((((w7.alloc (.cells #[.string ⟨#[111,112,101,110]⟩,.string ⟨#[110,111]⟩,.string ⟨#[121,101,115]⟩] 9)).setCell ⟨w.heap.size+1,0,none⟩ (.slice z0 D.first.length z1)).setCell ⟨w.heap.size+1,1,none⟩ (.slice z2 D.goal.length z3)).setCell ⟨w.heap.size+1,2,none⟩ (.slice z4 D.made.length z5)).setCell ⟨w.heap.size+1,3,none⟩ (.slice z6 D.now.length z7)).cell? ⟨w2.heap.size,3,none⟩=some (.slice z6 D.now.length z7)∧(((((w7.alloc (.cells #[.string ⟨#[111,112,101,110]⟩,.string ⟨#[110,111]⟩,.string ⟨#[121,101,115]⟩] 9)).setCell ⟨w.heap.size+1,0,none⟩ (.slice z0 D.first.length z1)).setCell ⟨w.heap.size+1,1,none⟩ (.slice z2 D.goal.length z3)).setCell ⟨w.heap.size+1,2,none⟩ (.slice z4 D.made.length z5)).setCell ⟨w.heap.size+1,3,none⟩ (.slice z6 D.now.length z7)).cell? ⟨w.heap.size,0,none⟩=some a∧(((((w7.alloc (.cells #[.string ⟨#[111,112,101,110]⟩,.string ⟨#[110,111]⟩,.string ⟨#[121,101,115]⟩] 9)).setCell ⟨w.heap.size+1,0,none⟩ (.slice z0 D.first.length z1)).setCell ⟨w.heap.size+1,1,none⟩ (.slice z2 D.goal.length z3)).setCell ⟨w.heap.size+1,2,none⟩ (.slice z4 D.made.length z5)).setCell ⟨w.heap.size+1,3,none⟩ (.slice z6 D.now.length z7)).cell? ⟨w.heap.size,1,none⟩=some b∧(((((w7.alloc (.cells #[.string ⟨#[111,112,101,110]⟩,.string ⟨#[110,111]⟩,.string ⟨#[121,101,115]⟩] 9)).setCell ⟨w.heap.size+1,0,none⟩ (.slice z0 D.first.length z1)).setCell ⟨w.heap.size+1,1,none⟩ (.slice z2 D.goal.length z3)).setCell ⟨w.heap.size+1,2,none⟩ (.slice z4 D.made.length z5)).setCell ⟨w.heap.size+1,3,none⟩ (.slice z6 D.now.length z7)).cell? ⟨w.heap.size,2,none⟩=some c∧(((((w7.alloc (.cells #[.string ⟨#[111,112,101,110]⟩,.string ⟨#[110,111]⟩,.string ⟨#[121,101,115]⟩] 9)).setCell ⟨w.heap.size+1,0,none⟩ (.slice z0 D.first.length z1)).setCell ⟨w.heap.size+1,1,none⟩ (.slice z2 D.goal.length z3)).setCell ⟨w.heap.size+1,2,none⟩ (.slice z4 D.made.length z5)).setCell ⟨w.heap.size+1,3,none⟩ (.slice z6 D.now.length z7)).cell? ⟨w.heap.size,3,none⟩=some d:=⟨k6a.cell 0,k6a.cell 1,k6a.cell 2,k6a.cell 3,k1a.cell 0,k1a.cell 1,k1a.cell 2,k1a.cell 3⟩);(have kla:=kl.outside hOa (.inr (by omega)));(have l0b:=kla.cell 0);(have l1b:=kla.cell 1);(have l2b:=kla.cell 2);(have HR7:=H_ (sld_of (K3.out.below hbL K3.out.lt) (HB.out.trans (hbL.mono (by omega))) (O6.out.below hbL (by omega)) (by omega) (by omega)));(have k3c:=K3.out.below hb7 K3.out.lt);(have c0c:=k3c.cell 0);(have c1c:=k3c.cell 1);(have c2c:=k3c.cell 2);(have c3c:=k3c.cell 3);(have f0c:=k3c.free 0);(have f1c:=k3c.free 1);(have f2c:=k3c.free 2);(have f3c:=k3c.free 3);(have hOc:=Outside.set4 (w.heap.size+1) w7 (.slice z0 D.first.length z1) (.slice z2 D.goal.length z3) (.slice z4 D.made.length z5) (.slice z6 D.now.length z7));(have k6c:=(K6.out.below hb7 K6.out.lt).outside hOc (.inr (by omega)));(have k1c:=(K1.out.below hb7 K1.out.lt).outside hOc (.inl (by omega)));(have hSsc:((((w7.setCell ⟨w.heap.size+1,0,none⟩ (.slice z0 D.first.length z1)).setCell ⟨w.heap.size+1,1,none⟩ (.slice z2 D.goal.length z3)).setCell ⟨w.heap.size+1,2,none⟩ (.slice z4 D.made.length z5)).setCell ⟨w.heap.size+1,3,none⟩ (.slice z6 D.now.length z7)).cell? ⟨w2.heap.size,0,none⟩=some (.slice z0 D.first.length z1)∧((((w7.setCell ⟨w.heap.size+1,0,none⟩ (.slice z0 D.first.length z1)).setCell ⟨w.heap.size+1,1,none⟩ (.slice z2 D.goal.length z3)).setCell ⟨w.heap.size+1,2,none⟩ (.slice z4 D.made.length z5)).setCell ⟨w.heap.size+1,3,none⟩ (.slice z6 D.now.length z7)).cell? ⟨w2.heap.size,1,none⟩=some (.slice z2 D.goal.length z3)∧((((w7.setCell ⟨w.heap.size+1,0,none⟩ (.slice z0 D.first.length z1)).setCell ⟨w.heap.size+1,1,none⟩ (.slice z2 D.goal.length z3)).setCell ⟨w.heap.size+1,2,none⟩ (.slice z4 D.made.length z5)).setCell ⟨w.heap.size+1,3,none⟩ (.slice z6 D.now.length z7)).cell? ⟨w2.heap.size,2,none⟩=some (.slice z4 D.made.length z5)∧((((w7.setCell ⟨w.heap.size+1,0,none⟩ (.slice z0 D.first.length z1)).setCell ⟨w.heap.size+1,1,none⟩ (.slice z2 D.goal.length z3)).setCell ⟨w.heap.size+1,2,none⟩ (.slice z4 D.made.length z5)).setCell ⟨w.heap.size+1,3,none⟩ (.slice z6 D.now.length z7)).cell? ⟨w2.heap.size,3,none⟩=some (.slice z6 D.now.length z7)∧((((w7.setCell ⟨w.heap.size+1,0,none⟩ (.slice z0 D.first.length z1)).setCell ⟨w.heap.size+1,1,none⟩ (.slice z2 D.goal.length z3)).setCell ⟨w.heap.size+1,2,none⟩ (.slice z4 D.made.length z5)).setCell ⟨w.heap.size+1,3,none⟩ (.slice z6 D.now.length z7)).cell? ⟨w.heap.size,0,none⟩=some a∧((((w7.setCell ⟨w.heap.size+1,0,none⟩ (.slice z0 D.first.length z1)).setCell ⟨w.heap.size+1,1,none⟩ (.slice z2 D.goal.length z3)).setCell ⟨w.heap.size+1,2,none⟩ (.slice z4 D.made.length z5)).setCell ⟨w.heap.size+1,3,none⟩ (.slice z6 D.now.length z7)).cell? ⟨w.heap.size,1,none⟩=some b∧((((w7.setCell ⟨w.heap.size+1,0,none⟩ (.slice z0 D.first.length z1)).setCell ⟨w.heap.size+1,1,none⟩ (.slice z2 D.goal.length z3)).setCell ⟨w.heap.size+1,2,none⟩ (.slice z4 D.made.length z5)).setCell ⟨w.heap.size+1,3,none⟩ (.slice z6 D.now.length z7)).cell? ⟨w.heap.size,2,none⟩=some c∧((((w7.setCell ⟨w.heap.size+1,0,none⟩ (.slice z0 D.first.length z1)).setCell ⟨w.heap.size+1,1,none⟩ (.slice z2 D.goal.length z3)).setCell ⟨w.heap.size+1,2,none⟩ (.slice z4 D.made.length z5)).setCell ⟨w.heap.size+1,3,none⟩ (.slice z6 D.now.length z7)).cell? ⟨w.heap.size,3,none⟩=some d:=⟨k6c.cell 0,k6c.cell 1,k6c.cell 2,k6c.cell 3,k1c.cell 0,k1c.cell 1,k1c.cell 2,k1c.cell 3⟩);(have k6d:=k6c.below (al_below _ (.cells #[.string ⟨#[111,112,101,110]⟩,.string ⟨#[110,111]⟩,.string ⟨#[121,101,115]⟩] 9)) k6c.lt);(have k1d:=k1c.below (al_below _ (.cells #[.string ⟨#[111,112,101,110]⟩,.string ⟨#[110,111]⟩,.string ⟨#[121,101,115]⟩] 9)) k1c.lt);(have hSd:(((((w7.setCell ⟨w.heap.size+1,0,none⟩ (.slice z0 D.first.length z1)).setCell ⟨w.heap.size+1,1,none⟩ (.slice z2 D.goal.length z3)).setCell ⟨w.heap.size+1,2,none⟩ (.slice z4 D.made.length z5)).setCell ⟨w.heap.size+1,3,none⟩ (.slice z6 D.now.length z7)).alloc (.cells #[.string ⟨#[111,112,101,110]⟩,.string ⟨#[110,111]⟩,.string ⟨#[121,101,115]⟩] 9)).cell? ⟨w2.heap.size,0,none⟩=some (.slice z0 D.first.length z1)∧(((((w7.setCell ⟨w.heap.size+1,0,none⟩ (.slice z0 D.first.length z1)).setCell ⟨w.heap.size+1,1,none⟩ (.slice z2 D.goal.length z3)).setCell ⟨w.heap.size+1,2,none⟩ (.slice z4 D.made.length z5)).setCell ⟨w.heap.size+1,3,none⟩ (.slice z6 D.now.length z7)).alloc (.cells #[.string ⟨#[111,112,101,110]⟩,.string ⟨#[110,111]⟩,.string ⟨#[121,101,115]⟩] 9)).cell? ⟨w2.heap.size,1,none⟩=some (.slice z2 D.goal.length z3)∧(((((w7.setCell ⟨w.heap.size+1,0,none⟩ (.slice z0 D.first.length z1)).setCell ⟨w.heap.size+1,1,none⟩ (.slice z2 D.goal.length z3)).setCell ⟨w.heap.size+1,2,none⟩ (.slice z4 D.made.length z5)).setCell ⟨w.heap.size+1,3,none⟩ (.slice z6 D.now.length z7)).alloc (.cells #[.string ⟨#[111,112,101,110]⟩,.string ⟨#[110,111]⟩,.string ⟨#[121,101,115]⟩] 9)).cell? ⟨w2.heap.size,2,none⟩=some (.slice z4 D.made.length z5)∧(((((w7.setCell ⟨w.heap.size+1,0,none⟩ (.slice z0 D.first.length z1)).setCell ⟨w.heap.size+1,1,none⟩ (.slice z2 D.goal.length z3)).setCell ⟨w.heap.size+1,2,none⟩ (.slice z4 D.made.length z5)).setCell ⟨w.heap.size+1,3,none⟩ (.slice z6 D.now.length z7)).alloc (.cells #[.string ⟨#[111,112,101,110]⟩,.string ⟨#[110,111]⟩,.string ⟨#[121,101,115]⟩] 9)).cell? ⟨w2.heap.size,3,none⟩=some (.slice z6 D.now.length z7)∧(((((w7.setCell ⟨w.heap.size+1,0,none⟩ (.slice z0 D.first.length z1)).setCell ⟨w.heap.size+1,1,none⟩ (.slice z2 D.goal.length z3)).setCell ⟨w.heap.size+1,2,none⟩ (.slice z4 D.made.length z5)).setCell ⟨w.heap.size+1,3,none⟩ (.slice z6 D.now.length z7)).alloc (.cells #[.string ⟨#[111,112,101,110]⟩,.string ⟨#[110,111]⟩,.string ⟨#[121,101,115]⟩] 9)).cell? ⟨w.heap.size,0,none⟩=some a∧(((((w7.setCell ⟨w.heap.size+1,0,none⟩ (.slice z0 D.first.length z1)).setCell ⟨w.heap.size+1,1,none⟩ (.slice z2 D.goal.length z3)).setCell ⟨w.heap.size+1,2,none⟩ (.slice z4 D.made.length z5)).setCell ⟨w.heap.size+1,3,none⟩ (.slice z6 D.now.length z7)).alloc (.cells #[.string ⟨#[111,112,101,110]⟩,.string ⟨#[110,111]⟩,.string ⟨#[121,101,115]⟩] 9)).cell? ⟨w.heap.size,1,none⟩=some b∧(((((w7.setCell ⟨w.heap.size+1,0,none⟩ (.slice z0 D.first.length z1)).setCell ⟨w.heap.size+1,1,none⟩ (.slice z2 D.goal.length z3)).setCell ⟨w.heap.size+1,2,none⟩ (.slice z4 D.made.length z5)).setCell ⟨w.heap.size+1,3,none⟩ (.slice z6 D.now.length z7)).alloc (.cells #[.string ⟨#[111,112,101,110]⟩,.string ⟨#[110,111]⟩,.string ⟨#[121,101,115]⟩] 9)).cell? ⟨w.heap.size,2,none⟩=some c∧(((((w7.setCell ⟨w.heap.size+1,0,none⟩ (.slice z0 D.first.length z1)).setCell ⟨w.heap.size+1,1,none⟩ (.slice z2 D.goal.length z3)).setCell ⟨w.heap.size+1,2,none⟩ (.slice z4 D.made.length z5)).setCell ⟨w.heap.size+1,3,none⟩ (.slice z6 D.now.length z7)).alloc (.cells #[.string ⟨#[111,112,101,110]⟩,.string ⟨#[110,111]⟩,.string ⟨#[121,101,115]⟩] 9)).cell? ⟨w.heap.size,3,none⟩=some d:=⟨k6d.cell 0,k6d.cell 1,k6d.cell 2,k6d.cell 3,k1d.cell 0,k1d.cell 1,k1d.cell 2,k1d.cell 3⟩);(have kld:=Blk.new ((((w7.setCell ⟨w.heap.size+1,0,none⟩ (.slice z0 D.first.length z1)).setCell ⟨w.heap.size+1,1,none⟩ (.slice z2 D.goal.length z3)).setCell ⟨w.heap.size+1,2,none⟩ (.slice z4 D.made.length z5)).setCell ⟨w.heap.size+1,3,none⟩ (.slice z6 D.now.length z7)) (.cells #[.string ⟨#[111,112,101,110]⟩,.string ⟨#[110,111]⟩,.string ⟨#[121,101,115]⟩] 9));(have l0d:=kld.cell 0);(have l1d:=kld.cell 1);(have l2d:=kld.cell 2);(have HR80:=H_ (sld_of (K3.out.below hb7 K3.out.lt) (HB.out.trans (hb7.mono (by omega))) (O6.out.below hb7 (by omega)) (by omega) (by omega)));(have HR8:=H_ (sld_al HR80.out (.cells #[.string ⟨#[111,112,101,110]⟩,.string ⟨#[110,111]⟩,.string ⟨#[121,101,115]⟩] 9)));clear hb_ hb7 hbL kl kla hOa k6a k1a k3a k3c hOc k6c k1c k6d k1d kld HR80)
      | (go_at_call 56;refine (HEQ.out (w5.alloc (.cells #[.string ⟨#[111,112,101,110]⟩,.string ⟨#[110,111]⟩,.string ⟨#[121,101,115]⟩] 9)).drew hbB).mono ?_;rintro e7 w7 ⟨rfl,hb_⟩;(have hs7:=hb_.size);(have hb7:=hbB.trans (hb_.mono (by omega)));(have hS7:=HGS.out _ hb7);(have kl:=KL.out.below hb_ (by omega));(have l0a:=kl.cell 0);(have l1a:=kl.cell 1);(have l2a:=kl.cell 2);(have k3a:=K3.out.below hb7 K3.out.lt);(have c0a:=k3a.cell 0);(have c1a:=k3a.cell 1);(have c2a:=k3a.cell 2);(have c3a:=k3a.cell 3);(have f0a:=k3a.free 0);(have f1a:=k3a.free 1);(have f2a:=k3a.free 2);(have f3a:=k3a.free 3);(have hOa:=Outside.set4 (w.heap.size+1) w7 (.slice z0 D.first.length z1) (.slice z2 D.goal.length z3) (.slice z4 D.made.length z5) (.slice z6 D.now.length z7));(have k6a:=(K6.out.below hb7 K6.out.lt).outside hOa (.inr (by omega)));(have k1a:=(K1.out.below hb7 K1.out.lt).outside hOa (.inl (by omega)));(have hSsa:((((w7.setCell ⟨w.heap.size+1,0,none⟩ (.slice z0 D.first.length z1)).setCell ⟨w.heap.size+1,1,none⟩ (.slice z2 D.goal.length z3)).setCell ⟨w.heap.size+1,2,none⟩ (.slice z4 D.made.length z5)).setCell ⟨w.heap.size+1,3,none⟩ (.slice z6 D.now.length z7)).cell? ⟨w2.heap.size,0,none⟩=some (.slice z0 D.first.length z1)∧((((w7.setCell ⟨w.heap.size+1,0,none⟩ (.slice z0 D.first.length z1)).setCell ⟨w.heap.size+1,1,none⟩ (.slice z2 D.goal.length z3)).setCell ⟨w.heap.size+1,2,none⟩ (.slice z4 D.made.length z5)).setCell ⟨w.heap.size+1,3,none⟩ (.slice z6 D.now.length z7)).cell? ⟨w2.heap.size,1,none⟩=some (.slice z2 D.goal.length z3)∧((((w7.setCell ⟨w.heap.size+1,0,none⟩ (.slice z0 D.first.length z1)).setCell ⟨w.heap.size+1,1,none⟩ (.slice z2 D.goal.length z3)).setCell ⟨w.heap.size+1,2,none⟩ (.slice z4 D.made.length z5)).setCell ⟨w.heap.size+1,3,none⟩ (.slice z6 D.now.length z7)).cell? ⟨w2.heap.size,2,none⟩=some (.slice z4 D.made.length z5)∧((((w7.setCell ⟨w.heap.size+1,0,none⟩ (.slice z0 D.first.length z1)).setCell ⟨w.heap.size+1,1,none⟩ (.slice z2 D.goal.length z3)).setCell ⟨w.heap.size+1,2,none⟩ (.slice z4 D.made.length z5)).setCell ⟨w.heap.size+1,3,none⟩ (.slice z6 D.now.length z7)).cell? ⟨w2.heap.size,3,none⟩=some (.slice z6 D.now.length z7)∧((((w7.setCell ⟨w.heap.size+1,0,none⟩ (.slice z0 D.first.length z1)).setCell ⟨w.heap.size+1,1,none⟩ (.slice z2 D.goal.length z3)).setCell ⟨w.heap.size+1,2,none⟩ (.slice z4 D.made.length z5)).setCell ⟨w.heap.size+1,3,none⟩ (.slice z6 D.now.length z7)).cell? ⟨w.heap.size,0,none⟩=some a∧((((w7.setCell ⟨w.heap.size+1,0,none⟩ (.slice z0 D.first.length z1)).setCell ⟨w.heap.size+1,1,none⟩ (.slice z2 D.goal.length z3)).setCell ⟨w.heap.size+1,2,none⟩ (.slice z4 D.made.length z5)).setCell ⟨w.heap.size+1,3,none⟩ (.slice z6 D.now.length z7)).cell? ⟨w.heap.size,1,none⟩=some b∧((((w7.setCell ⟨w.heap.size+1,0,none⟩ (.slice z0 D.first.length z1)).setCell ⟨w.heap.size+1,1,none⟩ (.slice z2 D.goal.length z3)).setCell ⟨w.heap.size+1,2,none⟩ (.slice z4 D.made.length z5)).setCell ⟨w.heap.size+1,3,none⟩ (.slice z6 D.now.length z7)).cell? ⟨w.heap.size,2,none⟩=some c∧((((w7.setCell ⟨w.heap.size+1,0,none⟩ (.slice z0 D.first.length z1)).setCell ⟨w.heap.size+1,1,none⟩ (.slice z2 D.goal.length z3)).setCell ⟨w.heap.size+1,2,none⟩ (.slice z4 D.made.length z5)).setCell ⟨w.heap.size+1,3,none⟩ (.slice z6 D.now.length z7)).cell? ⟨w.heap.size,3,none⟩=some d:=⟨k6a.cell 0,k6a.cell 1,k6a.cell 2,k6a.cell 3,k1a.cell 0,k1a.cell 1,k1a.cell 2,k1a.cell 3⟩);(have kla:=kl.outside hOa (.inr (by omega)));(have l0b:=kla.cell 0);(have l1b:=kla.cell 1);(have l2b:=kla.cell 2);(have HR7:=H_ (sld_of (K3.out.below hb7 K3.out.lt) (HB.out.trans (hb7.mono (by omega))) (O6.out.below hb7 (by omega)) (by omega) (by omega)));clear hb_ hb7 kl kla hOa k6a k1a k3a)))
    | fail
   all_goals (
    go_wp2_with fail
    go_meet
    first | with_reducible exact ⟨rfl,HR7⟩ | with_reducible exact ⟨rfl,HR8⟩ | exact ⟨rfl,HR7⟩ | exact ⟨rfl,HR8⟩))
 obtain ⟨rfl,HR⟩:=hcut
 obtain ⟨wz,rfl⟩:∃ x_,x_=wc:=⟨_,rfl⟩
 have q0:=HR.out.1.cell 0
 have q1:=HR.out.1.cell 1
 have q2:=HR.out.1.cell 2
 have q3:=HR.out.1.cell 3
 go_wp2
 exact bodyPost_ret (v:=.tuple #[aggD (.slice z0 D.first.length z1) (.slice z2 D.goal.length z3) (.slice z4 D.made.length z5) (.slice z6 D.now.length z7),.string ⟨(eqT i).toArray⟩]) (by simp [results,Tryz.results21,go_sem,q0,q1,q2,q3]) rfl ⟨_,_,_,_,_,rfl,by rw [HAS.out],HR.out.2.2,HR.out.2.1⟩
end Go.Proofs.YtfnnhimopokpnaaGreatDoor
