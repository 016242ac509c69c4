/- Lemmas for this seat; no condition. -/
import Derived.Test.YtfnnhimopokpnaaGreatDoorHAAF
import Derived.Test.YtfnnhimopokpnaaGreatDoorHAAG
namespace Go.Proofs.YtfnnhimopokpnaaGreatDoor
open Go.RowKit
set_option maxRecDepth 100000
set_option maxHeartbeats 0
set_option linter.unusedVariables false
def MoveR (w:World) (r:Option (List Int)) (v:Value) (ok:Bool) (w':World):Prop:=
 Below w.heap.size w w'∧ok=r.isSome∧OwnI w.heap.size w'.heap.size 3 w' v (r.getD [])
theorem MoveR.fail {w w':World} (hb:Below w.heap.size w w'):MoveR w none (.slice (some ⟨w'.heap.size,0,none⟩) 0 0) false (w'.alloc (.cells #[] 3)):=
 ⟨hb.alloc hb.size _,rfl,Own.wide2 (Own.lit 1 3 w' (ints []) 0 (by omega) rfl) hb.size (by simp)⟩
theorem rdV_zero (w:World) (w':World) (b:Nat) (hb:Blk b (.cells #[.slice (some ⟨w.heap.size,0,none⟩) 0 0,.slice (some ⟨w.heap.size+1,0,none⟩) 0 0,.slice (some ⟨w.heap.size+2,0,none⟩) 0 0] 22) w') :
  RdV w' (.slice (some ⟨b,0,none⟩) 3 3) zeroV:=by
 refine ⟨[.slice (some ⟨w.heap.size,0,none⟩) 0 0,.slice (some ⟨w.heap.size+1,0,none⟩) 0 0,.slice (some ⟨w.heap.size+2,0,none⟩) 0 0],⟨some ⟨b,0,none⟩,3,rfl,by omega,by decide,rfl,(by intro h;cases h),fun i hi=>?_⟩,fun k hk=>?_⟩
 ·refine ⟨b,0,rfl,Nat.zero_le _,hb.lt,hb.lt,?_⟩
  rw [Nat.zero_add,hb.cell]
  simp
 ·match k,hk with
  | 0,_=>exact ⟨_,rfl,_,0,rfl,le_ _,by decide,rfl,(by intro h;cases h),fun i hi=>by simp [ints,zeroV] at hi⟩
  | 1,_=>exact ⟨_,rfl,_,0,rfl,le_ _,by decide,rfl,(by intro h;cases h),fun i hi=>by simp [ints,zeroV] at hi⟩
  | 2,_=>exact ⟨_,rfl,_,0,rfl,le_ _,by decide,rfl,(by intro h;cases h),fun i hi=>by simp [ints,zeroV] at hi⟩
theorem specMove_bad (e:List Int) (m:Mv) (ve:Value) (w:World) (he:RdI w ve e) (hel:e.length≤1048576) (hbad:(katV e&&isR m.which&&inB m.at_ 0 (e.length-1))=false) :
  Calls Tryz.prog 99 #[ve,.agg #[.int .i64 m.which,.bool m.back,.int .i64 m.at_]] w (RetVB (MoveR w (moveV e m))):=by
 have HN:Hid (moveV e m=none):=H_ (by unfold moveV;rw [hbad];rfl)
 obtain ⟨kv,hkv⟩:∃ kv,kv=katV e:=⟨_,rfl⟩
 obtain ⟨kr,hkr⟩:∃ kr,kr=isR m.which:=⟨_,rfl⟩
 obtain ⟨ki,hki⟩:∃ ki,ki=inB m.at_ 0 (e.length-1):=⟨_,rfl⟩
 rw [←hkv,←hkr,←hki] at hbad
 have HKV:=H_ hkv
 have HKR:=H_ hkr
 have HKI:=H_ hki
 clear hkv hkr hki
 obtain ⟨w0,hw0⟩:∃ w0,w0=w.alloc (.cells #[.int .i64 m.which,.bool m.back,.int .i64 m.at_] 67):=⟨_,rfl⟩
 have hb0:Below w.heap.size w w0:=by rw [hw0];exact (B_ _ _).alloc (le_ _) _
 have hs0:w0.heap.size=w.heap.size+1:=by rw [hw0];simp
 have K:=H_ (show Blk w.heap.size (.cells #[.int .i64 m.which,.bool m.back,.int .i64 m.at_] 67) w0 by rw [hw0];exact Blk.new w _)
 have HB:=H_ hb0
 have HE:=H_ (he.below hb0)
 have HW0:=H_ hw0
 obtain ⟨ea,ecap,rfl,hec,hecm,_⟩:=he.open
 have c0:=K.out.cell 0
 clear he hb0 hw0
 go_enter Tryz.func99,Tryz.ntmps99
 go_wp2_with fail
 simp only [←HW0.out]
 go_wp2_with fail
 refine (spec_RuleOf m.which _).mono ?_
 rintro e1 w1 ⟨ra,rb,rc,rfl,hrc,hb1,hrule⟩
 obtain ⟨la,ln,lc,rfl⟩:∃ x l c,ra=.slice x l c:=by obtain ⟨_,_,_,h3,_⟩:=hrule;obtain ⟨x,c,h,_⟩:=Own.open h3;exact ⟨x,_,c,h⟩
 obtain ⟨lb,lm,ld,rfl⟩:∃ x l c,rb=.slice x l c:=by obtain ⟨_,_,_,_,h3⟩:=hrule;obtain ⟨x,c,h,_⟩:=Own.open h3;exact ⟨x,_,c,h⟩
 obtain ⟨wa,hwa⟩:∃ wa,wa=w1.alloc (.cells #[.slice none 0 0,.slice none 0 0] 161):=⟨_,rfl⟩
 have KA:Blk w1.heap.size (.cells #[.slice none 0 0,.slice none 0 0] 161) wa:=by rw [hwa];exact Blk.new w1 _
 have HWA:=H_ hwa
 have r0:=KA.cell 0
 have r1:=KA.cell 1
 have f0:=KA.free 0
 have f1:=KA.free 1
 obtain ⟨w2,hw2⟩:∃ w2,w2=(wa.setCell ⟨w1.heap.size,0,none⟩ (.slice la ln lc)).setCell ⟨w1.heap.size,1,none⟩ (.slice lb lm ld):=⟨_,rfl⟩
 have KR:=H_ (show Blk w1.heap.size _ w2 by rw [hw2];exact KA.set2 (.slice la ln lc) (.slice lb lm ld))
 have hba:Below w1.heap.size w1 wa:=by rw [hwa];exact (B_ _ _).alloc (le_ _) _
 have hsa:wa.heap.size=w1.heap.size+1:=by rw [hwa];simp
 have hb2:Below w1.heap.size w1 w2:=by rw [hw2];exact Below.outside hba (Outside.set2 _ _ _ _) (le_ _) (by omega)
 have HW2:=H_ hw2
 have hs1:=hb1.size
 have hs2:=hb2.size
 have HRU:=H_ (hrule.below hb2 (le_ _))
 have HB2:=H_ ((HB.out.trans (hb1.mono HB.out.size)).trans (hb2.mono (by omega)))
 have K2:=H_ ((K.out.below hb1 K.out.lt).below hb2 (by have:=K.out.lt;omega))
 have HE2:=H_ ((HE.out.below hb1).below hb2)
 have HRC:=H_ hrc
 clear hwa KA hw2 hb2 hba hb1 hrule hrc HE K HB c0
 go_wp2_with (first | rw [←HWA.out] | rw [←HW2.out])
 refine (spec_KatValid 0 _ _ e _ HE2.out hel).mono ?_
 rintro e2 wx ⟨rfl,rfl⟩
 clear r0 r1 f0 f1
 rw [←HKV.out]
 have hrc:=HRC.out
 rw [←HKR.out] at hrc
 subst hrc
 have c2:=K2.out.cell 2
 cases kv
 ·go_wp2
  refine bodyPost_ret (v:=.tuple #[.slice (some ⟨w2.heap.size,0,none⟩) 0 0,.bool false]) (by simp [results,Tryz.results99,go_sem]) rfl ⟨_,_,rfl,?_⟩
  rw [HN.out]
  exact MoveR.fail HB2.out
 ·cases rc
  ·go_wp2
   refine bodyPost_ret (v:=.tuple #[.slice (some ⟨w2.heap.size,0,none⟩) 0 0,.bool false]) (by simp [results,Tryz.results99,go_sem]) rfl ⟨_,_,rfl,?_⟩
   rw [HN.out]
   exact MoveR.fail HB2.out
  ·simp only [Bool.true_and] at hbad
   subst hbad
   have hin:=HKI.out.symm
   go_wp2_with (go_at_call 101;refine (l1In_any _ _ _ _).mono ?_;rintro e w' ⟨rfl,rfl⟩)
   refine bodyPost_ret (v:=.tuple #[.slice (some ⟨w2.heap.size,0,none⟩) 0 0,.bool false]) (by simp [results,Tryz.results99,go_sem]) rfl ⟨_,_,rfl,?_⟩
   rw [HN.out]
   exact MoveR.fail HB2.out
theorem fill_mono {V V':List (List Int)} (hm:∀ i,V.getD i []≠[]→V'.getD i []=V.getD i []):∀ (l x:List Int),fillT l V=some x→fillT l V'=some x
 | [],x,h=>h
 | s :: r,x,h=>by
  rw [fillT] at h ⊢
  split at h
  ·rename_i hs
   rw [if_pos hs]
   obtain ⟨y,h1,h2⟩:=Option.map_eq_some_iff.1 h
   rw [fill_mono hm r y h1,←h2]
   rfl
  ·rename_i hs
   rw [if_neg hs]
   split at h
   ·cases h
   ·rename_i hv
    rw [hm _ hv,if_neg hv]
    obtain ⟨y,h1,h2⟩:=Option.map_eq_some_iff.1 h
    rw [fill_mono hm r y h1,←h2]
    rfl
theorem match_fill:∀ (p t:KT) (V V':List (List Int)),V.length=3→p.ok (-3)=true→t.ok 0=true→matchT p t V=some V' →
  V'.length=3∧(∀ i,V.getD i []≠[]→V'.getD i []=V.getD i [])∧fillT p.post V'=some t.post
 | .leaf n,t,V,V',hV,hp,ht,h=>by
  simp only [KT.ok,Bool.and_eq_true,decide_eq_true_eq] at hp
  rw [matchT] at h
  split at h
  ·rename_i hn
   have hk:varK n<3:=by unfold varK;omega
   have hn0:¬0≤n:=by omega
   split at h
   ·rename_i h0
    injection h with h
    subst h
    have hg:(V.set (varK n) t.post).getD (varK n) []=t.post:=by simp [List.getD,hV,hk]
    refine ⟨by simp [hV],fun i hi=>?_,?_⟩
    ·have hne:varK n≠i:=by intro e;subst e;exact hi h0
     simp [List.getD,List.getElem?_set_ne hne]
    ·simp only [KT.post,fillT,if_neg hn0,hg,if_neg t.post_ne]
     simp
   ·rename_i h0
    split at h
    ·rename_i h1
     injection h with h
     subst h
     refine ⟨hV,fun i _=>rfl,?_⟩
     simp only [KT.post,fillT,if_neg hn0,h1,if_neg t.post_ne]
     simp
    ·cases h
  ·rename_i hn
   split at h
   ·rename_i hr
    injection h with h
    subst h
    refine ⟨hV,fun i _=>rfl,?_⟩
    have hn0:0≤n:=by omega
    cases t with
    | leaf m=>simp only [KT.root] at hr;subst hr;simp [KT.post,fillT,hn0]
    | star _=>simp only [KT.root] at hr;omega
    | bin q _ _=>simp only [KT.root] at hr;cases q<;>simp [KT.op] at hr<;>omega
   ·cases h
 | .star p,t,V,V',hV,hp,ht,h=>by
  simp only [KT.ok] at hp
  cases t with
  | star t'=>
   simp only [matchT] at h
   simp only [KT.ok] at ht
   obtain ⟨h1,h2,h3⟩:=match_fill p t' V V' hV hp ht h
   refine ⟨h1,h2,?_⟩
   simp only [KT.post,fillT_append,h3]
   simp [fillT]
  | leaf _=>simp [matchT] at h
  | bin _ _ _=>simp [matchT] at h
 | .bin q a b,t,V,V',hV,hp,ht,h=>by
  simp only [KT.ok,Bool.and_eq_true] at hp
  cases t with
  | bin r c d=>
   simp only [matchT] at h
   simp only [KT.ok,Bool.and_eq_true] at ht
   split at h
   ·rename_i hq
    subst hq
    rw [Option.bind_eq_some_iff] at h
    obtain ⟨V1,g1,g2⟩:=h
    obtain ⟨h1,h2,h3⟩:=match_fill a c V V1 hV hp.1 ht.1 g1
    obtain ⟨k1,k2,k3⟩:=match_fill b d V1 V' h1 hp.2 ht.2 g2
    refine ⟨k1,fun i hi=>?_,?_⟩
    ·rw [k2 i (by rw [h2 i hi];exact hi),h2 i hi]
    ·have hq0:0≤KT.op q:=by cases q<;>simp [KT.op]
     simp only [KT.post,fillT_append,fill_mono k2 _ _ h3,k3]
     simp [fillT,hq0]
   ·cases h
  | leaf _=>simp [matchT] at h
  | star _=>simp [matchT] at h
def easyN:List Nat:=[2,3,5,6,7,8,15,16,17,18,19]
theorem easy_sides:∀ n∈easyN,∀ V t part,V.length=3→fillT (ruleS n true) V=some t→fillT (ruleS n false) V=some part→part.length<t.length:=by
 have e2:ruleS 2 true=[-1,-1,20]∧ruleS 2 false=[-1]:=by decide +kernel
 have e3:ruleS 3 true=[-1,0,20]∧ruleS 3 false=[-1]:=by decide +kernel
 have e5:ruleS 5 true=[15,-1,19]∧ruleS 5 false=[-1]:=by decide +kernel
 have e6:ruleS 6 true=[-1,15,19]∧ruleS 6 false=[-1]:=by decide +kernel
 have e7:ruleS 7 true=[0,-1,19]∧ruleS 7 false=[0]:=by decide +kernel
 have e8:ruleS 8 true=[-1,0,19]∧ruleS 8 false=[0]:=by decide +kernel
 have e15:ruleS 15 true=[-1,21,21]∧ruleS 15 false=[-1,21]:=by decide +kernel
 have e16:ruleS 16 true=[-1,21,-1,21,19]∧ruleS 16 false=[-1,21]:=by decide +kernel
 have e17:ruleS 17 true=[0,21]∧ruleS 17 false=[15]:=by decide +kernel
 have e18:ruleS 18 true=[15,21]∧ruleS 18 false=[15]:=by decide +kernel
 have e19:ruleS 19 true=[15,-1,20,21]∧ruleS 19 false=[-1,21]:=by decide +kernel
 intro n hn V t part hV h1 h2
 obtain ⟨X,Y,Z,rfl⟩:∃ X Y Z,V=[X,Y,Z]:=by
  match V,hV with
  | [X,Y,Z],_=>exact ⟨X,Y,Z,rfl⟩
 have hl:X≠[]→0<X.length:=fun h=>List.length_pos_iff.2 h
 simp only [easyN,List.mem_cons,List.mem_nil_iff,or_false] at hn
 by_cases hX:X=[]
 ·subst hX
  rcases hn with rfl|rfl|rfl|rfl|rfl|rfl|rfl|rfl|rfl|rfl|rfl
  all_goals simp [fillT,varK,e2,e3,e5,e6,e7,e8,e15,e16,e17,e18,e19] at h1 h2
  all_goals (subst h1;subst h2;simp)
 ·have hp:=hl hX
  rcases hn with rfl|rfl|rfl|rfl|rfl|rfl|rfl|rfl|rfl|rfl|rfl
  all_goals simp [fillT,varK,e2,e3,e5,e6,e7,e8,e15,e16,e17,e18,e19,hX] at h1 h2
  all_goals (subst h1;subst h2;simp;try omega)
theorem moveV_open {e e':List Int} {m:Mv} (h:moveV e m=some e'):katV e=true∧isR m.which=true∧inB m.at_ 0 (e.length-1)=true∧moveAt e m=some e':=by
 unfold moveV at h
 split at h
 ·rename_i hc
  simp only [Bool.and_eq_true] at hc
  exact ⟨hc.1.1,hc.1.2,hc.2,h⟩
 ·cases h
theorem moveV_some {e e':List Int} {m:Mv} (h:moveV e m=some e') :
  ∃ k pre rest t p q V part,MoveO e m k pre rest t p q∧m.at_=k∧k<e.length∧matchT p t zeroV=some V∧fillT q V=some part∧e'=pre++part++rest∧e'.length≤40∧katV e'=true:=by
 obtain ⟨h1,h2,h3,h4⟩:=moveV_open h
 simp only [inB,Bool.and_eq_true,decide_eq_true_eq] at h3
 obtain ⟨k,hk⟩:∃ k:Nat,m.at_=k:=⟨m.at_.toNat,by omega⟩
 have hlt:k<e.length:=by omega
 obtain ⟨pre,rest,t,p,q,hM⟩:=move_open h1 h2 hk hlt
 rw [hM.mv] at h
 rw [Option.bind_eq_some_iff] at h
 obtain ⟨part,g1,g2⟩:=h
 rw [Option.bind_eq_some_iff] at g1
 obtain ⟨V,g3,g4⟩:=g1
 split at g2
 ·rename_i hl
  injection g2 with g2
  subst g2
  refine ⟨k,pre,rest,t,p,q,V,part,hM,hk,hlt,g3,g4,rfl,hl,?_⟩
  rw [(hM.val V part g3 g4).2.2]
  exact decide_eq_true hl
 ·cases g2
theorem moveV_kat' {e e':List Int} {m:Mv} (h:moveV e m=some e'):katV e'=true:=by
 obtain ⟨_,_,_,_,_,_,_,_,_,_,_,_,_,_,_,h⟩:=moveV_some h
 exact h
theorem easy_shorter {e e':List Int} {m:Mv} (hb:m.back=false) (hn:m.which.toNat∈easyN) (h:moveV e m=some e'):e'.length<e.length:=by
 obtain ⟨k,pre,rest,t,p,q,V,part,hM,hk,hlt,g3,g4,rfl,_,_⟩:=moveV_some h
 have h1:=(match_fill p t zeroV V rfl hM.pok hM.ok g3)
 have h2:=h1.2.2
 rw [hM.from_,hb] at h2
 rw [hM.to_,hb] at g4
 have:=easy_sides _ hn V _ _ h1.1 h2 g4
 rw [hM.eq]
 simp only [List.length_append]
 omega
def easyMv (e:List Int):List Mv:=(List.range e.length).flatMap fun at_=>easyN.map fun n=>⟨(n:Nat),false,(at_:Nat)⟩
def tryMv (e:List Int):List Mv→Option (Mv × List Int)
 | []=>none
 | m :: r=>match moveV e m with
  | some x=>some (m,x)
  | none=>tryMv e r
def firstEasy (e:List Int):Option (Mv × List Int):=tryMv e (easyMv e)
theorem tryMv_some {e:List Int}:∀ {l:List Mv} {m:Mv} {x:List Int},tryMv e l=some (m,x)→m∈l∧moveV e m=some x
 | [],m,x,h=>by cases h
 | c :: r,m,x,h=>by
  rw [tryMv] at h
  cases hc:moveV e c with
  | some y=>
   rw [hc] at h
   injection h with h
   injection h with h1 h2
   subst h1 h2
   exact ⟨List.mem_cons_self ..,hc⟩
  | none=>
   rw [hc] at h
   obtain ⟨h1,h2⟩:=tryMv_some h
   exact ⟨List.mem_cons_of_mem _ h1,h2⟩
theorem mem_easyMv {e:List Int} {m:Mv} (h:m∈easyMv e):m.back=false∧m.which.toNat∈easyN∧∃ k:Nat,m.at_=k∧k<e.length:=by
 simp only [easyMv,List.mem_flatMap,List.mem_range,List.mem_map] at h
 obtain ⟨k,hk,n,hn,rfl⟩:=h
 exact ⟨rfl,hn,k,rfl,hk⟩
theorem firstEasy_some {e x:List Int} {m:Mv} (h:firstEasy e=some (m,x)):moveV e m=some x∧m.back=false∧x.length<e.length∧katV x=true:=by
 obtain ⟨h1,h2⟩:=tryMv_some h
 obtain ⟨h3,h4,_⟩:=mem_easyMv h1
 exact ⟨h2,h3,easy_shorter h3 h4 h2,moveV_kat' h2⟩
def simpR:Nat→List Int→List Mv × List Int
 | 0,e=>([],e)
 | n+1,e=>match firstEasy e with
  | none=>([],e)
  | some (m,x)=>(m :: (simpR n x).1,(simpR n x).2)
def simpM (e:List Int):List Mv × List Int:=simpR e.length e
theorem simpR_nil:∀ n,simpR n []=([],[])
 | 0=>rfl
 | n+1=>by simp [simpR,firstEasy,easyMv,tryMv]
theorem simpR_two:∀ (n:Nat) (e:List Int),e.length≤n→∀ n',e.length≤n'→simpR n e=simpR n' e
 | 0,e,h,n',_=>by
  obtain rfl:=List.eq_nil_of_length_eq_zero (show e.length=0 by omega)
  rw [simpR_nil,simpR_nil]
 | n+1,e,h,0,h'=>by
  obtain rfl:=List.eq_nil_of_length_eq_zero (show e.length=0 by omega)
  rw [simpR_nil,simpR_nil]
 | n+1,e,h,n'+1,h'=>by
  rw [simpR,simpR]
  cases hf:firstEasy e with
  | none=>rfl
  | some p=>
   obtain ⟨m,x⟩:=p
   obtain ⟨_,_,hx,_⟩:=firstEasy_some hf
   simp only [simpR_two n x (by omega) n' (by omega)]
theorem simpM_none {e:List Int} (h:firstEasy e=none):simpM e=([],e):=by
 unfold simpM
 cases hl:e.length with
 | zero=>rfl
 | succ k=>rw [simpR,h]
theorem simpM_some {e x:List Int} {m:Mv} (h:firstEasy e=some (m,x)):simpM e=(m :: (simpM x).1,(simpM x).2):=by
 obtain ⟨_,_,hx,_⟩:=firstEasy_some h
 unfold simpM
 cases hl:e.length with
 | zero=>omega
 | succ k=>
  rw [simpR,h]
  simp only [simpR_two k x (by omega) x.length (le_ _)]
theorem simpM_bd:∀ (n:Nat) (e:List Int),e.length≤n→(simpM e).1.length+(simpM e).2.length≤e.length
 | 0,e,h=>by
  obtain rfl:=List.eq_nil_of_length_eq_zero (show e.length=0 by omega)
  simp [simpM,simpR]
 | n+1,e,h=>by
  cases hf:firstEasy e with
  | none=>rw [simpM_none hf];simp
  | some p=>
   obtain ⟨m,x⟩:=p
   obtain ⟨_,_,hx,_⟩:=firstEasy_some hf
   rw [simpM_some hf]
   have:=simpM_bd n x (by omega)
   simp
   omega
def runM:List Int→List Mv→Option (List Int)
 | e,[]=>some e
 | e,m :: r=>(moveV e m).bind fun x=>runM x r
def proofV (e:List Int) (ms:List Mv):Option (List Int):=if katV e&&decide (ms.length≤60) then runM e ms else none
theorem runM_append:∀ (a b:List Mv) (e:List Int),runM e (a++b)=(runM e a).bind fun x=>runM x b
 | [],b,e=>rfl
 | m :: r,b,e=>by
  simp only [List.cons_append,runM,Option.bind_assoc]
  congr 1
  funext x
  exact runM_append r b x
theorem runM_kat:∀ (ms:List Mv) (e x:List Int),katV e=true→runM e ms=some x→katV x=true
 | [],e,x,h,hr=>by injection hr with hr;subst hr;exact h
 | m :: r,e,x,h,hr=>by
  rw [runM,Option.bind_eq_some_iff] at hr
  obtain ⟨y,h1,h2⟩:=hr
  exact runM_kat r y x (moveV_kat' h1) h2
theorem runM_simpM:∀ (n:Nat) (e:List Int),e.length≤n→runM e (simpM e).1=some (simpM e).2
 | 0,e,h=>by
  obtain rfl:=List.eq_nil_of_length_eq_zero (show e.length=0 by omega)
  simp [simpM,simpR,runM]
 | n+1,e,h=>by
  cases hf:firstEasy e with
  | none=>rw [simpM_none hf];rfl
  | some p=>
   obtain ⟨m,x⟩:=p
   obtain ⟨h1,_,hx,_⟩:=firstEasy_some hf
   rw [simpM_some hf]
   simp only [runM,h1,Option.bind_some]
   exact runM_simpM n x (by omega)
theorem kat_len {e:List Int} (h:katV e=true):1≤e.length∧e.length≤40:=by
 simp only [katV,Bool.and_eq_true,decide_eq_true_eq] at h
 exact h.1
theorem proofV_simpM {e:List Int} (h:katV e=true):proofV e (simpM e).1=some (simpM e).2:=by
 have h1:=simpM_bd _ e (le_ _)
 have h2:=(kat_len h).2
 unfold proofV
 rw [h,decide_eq_true (by omega),runM_simpM _ e (le_ _)]
 rfl
theorem proofV_kat {e x:List Int} {ms:List Mv} (h:proofV e ms=some x):katV x=true:=by
 unfold proofV at h
 split at h
 ·rename_i hc
  simp only [Bool.and_eq_true] at hc
  exact runM_kat ms e x hc.1 h
 ·cases h
theorem RuleOwn.rd {lo hi:Nat} {w:World} {a b:Value} {L R:List Int} (h:RuleOwn lo hi w a b L R) (hh:hi≤w.heap.size):RdI w a L∧RdI w b R:=by
 obtain ⟨m,h1,h2,h3,h4⟩:=h
 exact ⟨h3.sl.wide (Nat.zero_le _) (by omega),h4.sl.wide (Nat.zero_le _) hh⟩
theorem specMove_main (ve:Value) (e:List Int) (n:Nat) (bk:Bool) (k:Nat) (w:World) (he:RdI w ve e) (hn21:n<21) (hv:katV e=true) (hlt:k<e.length) (pre rest:List Int) (t p:KT) (q:List Int) (hM:MoveO e ⟨n,bk,k⟩ k pre rest t p q) :
  Calls Tryz.prog 99 #[ve,.agg #[.int .i64 n,.bool bk,.int .i64 k]] w (RetVB (MoveR w (moveV e ⟨n,bk,k⟩))):=by
 have HM:=H_ hM
 have hel40:=hM.el
 have hel:e.length≤1048576:=by omega
 have hisr:isR (n:Int)=true:=by simp [isR,inB];omega
 have HV:=H_ hv
 have HIR:=H_ hisr
 clear hM hv hisr
 obtain ⟨w0,hw0⟩:∃ w0,w0=w.alloc (.cells #[.int .i64 n,.bool bk,.int .i64 k] 67):=⟨_,rfl⟩
 have hb0:Below w.heap.size w w0:=by rw [hw0];exact (B_ _ _).alloc (le_ _) _
 have hs0:w0.heap.size=w.heap.size+1:=by rw [hw0];simp
 have K:=H_ (show Blk w.heap.size (.cells #[.int .i64 n,.bool bk,.int .i64 k] 67) w0 by rw [hw0];exact Blk.new w _)
 have HB:=H_ hb0
 have HE:=H_ (he.below hb0)
 have HW0:=H_ hw0
 obtain ⟨ea,ecap,rfl,hec,hecm,_⟩:=he.open
 have c0:=K.out.cell 0
 clear he hb0 hw0
 go_enter Tryz.func99,Tryz.ntmps99
 go_wp2_with fail
 simp only [←HW0.out]
 go_wp2_with fail
 refine (spec_RuleOf n _).mono ?_
 rintro e1 w1 ⟨ra,rb,rc,rfl,hrc,hb1,hrule⟩
 obtain ⟨la,ln,lc,rfl⟩:∃ x l c,ra=.slice x l c:=by obtain ⟨_,_,_,h3,_⟩:=hrule;obtain ⟨x,c,h,_⟩:=Own.open h3;exact ⟨x,_,c,h⟩
 obtain ⟨lb,lm,ld,rfl⟩:∃ x l c,rb=.slice x l c:=by obtain ⟨_,_,_,_,h3⟩:=hrule;obtain ⟨x,c,h,_⟩:=Own.open h3;exact ⟨x,_,c,h⟩
 obtain ⟨wa,hwa⟩:∃ wa,wa=w1.alloc (.cells #[.slice none 0 0,.slice none 0 0] 161):=⟨_,rfl⟩
 have KA:Blk w1.heap.size (.cells #[.slice none 0 0,.slice none 0 0] 161) wa:=by rw [hwa];exact Blk.new w1 _
 have HWA:=H_ hwa
 have r0:=KA.cell 0
 have r1:=KA.cell 1
 have f0:=KA.free 0
 have f1:=KA.free 1
 obtain ⟨w2,hw2⟩:∃ w2,w2=(wa.setCell ⟨w1.heap.size,0,none⟩ (.slice la ln lc)).setCell ⟨w1.heap.size,1,none⟩ (.slice lb lm ld):=⟨_,rfl⟩
 have KR:=H_ (show Blk w1.heap.size _ w2 by rw [hw2];exact KA.set2 (.slice la ln lc) (.slice lb lm ld))
 have hba:Below w1.heap.size w1 wa:=by rw [hwa];exact (B_ _ _).alloc (le_ _) _
 have hsa:wa.heap.size=w1.heap.size+1:=by rw [hwa];simp
 have hb2:Below w1.heap.size w1 w2:=by rw [hw2];exact Below.outside hba (Outside.set2 _ _ _ _) (le_ _) (by omega)
 have HW2:=H_ hw2
 have hs1:=hb1.size
 have hs2:=hb2.size
 have HRU:=H_ (hrule.below hb2 (le_ _))
 have HB2:=H_ ((HB.out.trans (hb1.mono HB.out.size)).trans (hb2.mono (by omega)))
 have K2:=H_ ((K.out.below hb1 K.out.lt).below hb2 (by have:=K.out.lt;omega))
 have HE2:=H_ ((HE.out.below hb1).below hb2)
 have HRC:=H_ hrc
 clear hwa KA hw2 hb2 hba hb1 hrule hrc HE K HB c0
 go_wp2_with (first | rw [←HWA.out] | rw [←HW2.out])
 refine (spec_KatValid 0 _ _ e _ HE2.out hel).mono ?_
 rintro e2 wx ⟨rfl,rfl⟩
 clear r0 r1 f0 f1
 have hrc:=HRC.out
 rw [HIR.out] at hrc
 subst hrc
 have HRN:=H_ (show ruleN n true=ruleS n true∧ruleN n false=ruleS n false by unfold ruleN;rw [HIR.out];exact ⟨by simp,by simp⟩)
 have HRD:=H_ (HRU.out.rd hs2)
 rw [HRN.out.1,HRN.out.2] at HRD
 have hin:inB (k:Int) 0 ((e.length:Int)-1)=true:=by simp [inB];omega
 rw [HV.out]
 have c1:=K2.out.cell 1
 have c2:=K2.out.cell 2
 have q0:=KR.out.cell 0
 have q1:=KR.out.cell 1
 obtain ⟨eb,eoff,rfl⟩:=SlI.notNil HE2.out (by omega)
 have HF:Hid (p.post=ruleS n (!bk)):=H_ HM.out.from_
 have HT:Hid (q=ruleS n bk):=H_ HM.out.to_
 have hkeq:=HM.out.keq
 have htsz:=HM.out.sz
 have htpos:=t.size_pos
 have hpsz:=HM.out.psz
 have hql:=HM.out.ql
 have HSP:=H_ HM.out.span
 clear HRU HRC HIR HV
 unfold maxLen at hecm
 cases bk
 all_goals (
  first | have HFT:=H_ (pick_false HRD.out HF.out HT.out) | have HFT:=H_ (pick_true HRD.out HF.out HT.out)
  obtain rfl:=HFT.out.1.len'
  obtain rfl:=HFT.out.2.len'
  clear HRD
  go_wp2_with (go_at_call 101;refine (l1In_any _ _ _ _).mono ?_;rintro e w' ⟨rfl,rfl⟩)
  refine (l2Span_any 0 _ _ e k t.size w2 HE2.out hel hlt HSP.out).mono ?_
  rintro e3 wx ⟨x1,rfl,hx1,_,rfl⟩
  obtain rfl:x1=(pre.length:Int):=by omega
  obtain ⟨w5,hw5⟩:∃ w5,w5=(((w2.alloc (.cells #[] 3)).alloc (.cells #[] 3)).alloc (.cells #[] 3)).alloc (.cells #[.slice (some ⟨w2.heap.size,0,none⟩) 0 0,.slice (some ⟨w2.heap.size+1,0,none⟩) 0 0,.slice (some ⟨w2.heap.size+2,0,none⟩) 0 0] 22):=⟨_,rfl⟩
  have hb5:Below w2.heap.size w2 w5:=by rw [hw5];exact ((((B_ _ _).alloc (le_ _) _).alloc (by simp) _).alloc (by simp;omega) _).alloc (by simp;omega) _
  have hz5:w5.heap.size=w2.heap.size+4:=by rw [hw5];simp
  have HRV:=H_ (rdV_zero w2 w5 (w2.heap.size+3) (by
   rw [hw5]
   have h:=Blk.new (((w2.alloc (.cells #[] 3)).alloc (.cells #[] 3)).alloc (.cells #[] 3)) (.cells #[.slice (some ⟨w2.heap.size,0,none⟩) 0 0,.slice (some ⟨w2.heap.size+1,0,none⟩) 0 0,.slice (some ⟨w2.heap.size+2,0,none⟩) 0 0] 22)
   simpa using h))
  have z0:k+1-pre.length=t.size:=by omega
  have HPT:Hid (RdI w5 (.slice (some ⟨eb,eoff+pre.length,none⟩) t.size (ecap-pre.length)) t.post):=by
   have h:=HE2.out.sub pre.length (k+1) (by omega) (by omega)
   rw [z0] at h
   have h2:(e.drop pre.length).take t.size=t.post:=by rw [HM.out.eq,List.append_assoc,List.drop_left,←t.post_length,List.take_left]
   rw [h2] at h
   exact H_ (RdI.below h hb5)
  have HB5:=H_ (HB2.out.trans (hb5.mono (by have:=HB2.out.size;omega)))
  have HE5:=H_ (HE2.out.below hb5)
  have K5:=H_ (K2.out.below hb5 K2.out.lt)
  have HFT5:=H_ (And.intro (HFT.out.1.below hb5) (HFT.out.2.below hb5))
  have HW5:=H_ hw5
  have z1:(0:Int)≤(k:Int)+1:=by omega
  have z2:(pre.length:Int)≤(k:Int)+1:=by omega
  have z3:(k:Int)+1≤ecap:=by omega
  have z4:((k:Int)+1).toNat=k+1:=by omega
  have z5:pre.length≤k+1:=by omega
  have z6:k+1≤ecap:=by omega
  have z7:((k:Int)+1-pre.length).toNat=t.size:=by omega
  have z8:¬ecap=pre.length:=by omega
  clear hw5 hb5 HE2 K2 HFT HB2 KR q0 q1 c1 hx1
  go_wp2_with (first | rw [←HW5.out])
  refine (l9Match_any p HM.out.pok (by omega) t zeroV w5 _ _ _ HM.out.ok htsz GV.zero HFT5.out.1 HPT.out HRV.out).mono ?_
  rintro e6 w6 ⟨v6,b6,rfl,hb6,rfl,V6,hg6,hr6,hx6⟩
  have hs6:=hb6.size
  have HB6:=H_ (HB5.out.trans (hb6.mono HB5.out.size))
  have HE6:=H_ (HE5.out.below hb6)
  have K6:=H_ (K5.out.below hb6 K5.out.lt)
  have HT6:=H_ (HFT5.out.2.below hb6)
  have HX6:=H_ hx6
  have HG6:=H_ hg6
  obtain ⟨gb,go,gc,rfl,_⟩:=hr6.get
  have HR6:=H_ hr6
  clear hb6 hr6 hx6 hg6 HPT HRV HFT5 HE5 K5 HB5 z0 z1 z2 z3 z4 z5 z6 z7 z8 c2
  go_wp2_with fail
  refine (l9Fill_any q V6 w6 _ _ HM.out.qlo (by omega) HG6.out HT6.out HR6.out).mono ?_
  rintro e7 w7 ⟨v7,b7,rfl,hb7,rfl,⟨l7,hl7⟩,ho7⟩
  obtain ⟨a7,n7,c7,rfl⟩:∃ a n c,v7=.slice a n c:=by obtain ⟨a,c,h,_⟩:=Sl.shape hl7;exact ⟨a,_,c,h⟩
  have hs7:=hb7.size
  have HB7:=H_ (HB6.out.trans (hb7.mono HB6.out.size))
  have HE7:=H_ (HE6.out.below hb7)
  have K7:=H_ (K6.out.below hb7 K6.out.lt)
  have HO7:=H_ ho7
  have hszw:=HB7.out.size
  clear hb7 HE6 K6 HB6 HR6 HT6 ho7
  cases hres:matchT p t zeroV with
  | none=>
   have HR:Hid (moveV e ⟨n,_,k⟩=none):=H_ (by rw [HM.out.mv,hres];rfl)
   clear hres HX6
   simp only [Option.isSome_none]
   go_wp2
   refine bodyPost_ret (v:=.tuple #[.slice (some ⟨w7.heap.size,0,none⟩) 0 0,.bool false]) (by simp [results,Tryz.results99,go_sem]) rfl ⟨_,_,rfl,?_⟩
   rw [HR.out]
   exact MoveR.fail HB7.out
  | some V=>
   obtain rfl:V6=V:=HX6.out V hres
   have HR:=H_ (HM.out.mv)
   rw [hres,Option.bind_some] at HR
   have HVAL:=H_ (fun x hx=>HM.out.val V6 x hres hx)
   clear hres HX6
   simp only [Option.isSome_some]
   cases hfil:fillT q V6 with
   | none=>
    rw [hfil] at HR
    have HRN2:Hid (moveV e ⟨n,_,k⟩=none):=H_ (by rw [HR.out];rfl)
    clear hfil HO7
    simp only [Option.isSome_none]
    go_wp2
    refine bodyPost_ret (v:=.tuple #[.slice (some ⟨w7.heap.size,0,none⟩) 0 0,.bool false]) (by simp [results,Tryz.results99,go_sem]) rfl ⟨_,_,rfl,?_⟩
    rw [HRN2.out]
    exact MoveR.fail HB7.out
   | some x=>
    rw [hfil,Option.bind_some] at HR
    obtain ⟨hx1,hx2,hx3⟩:=HVAL.out x hfil
    have ho:=HO7.out x hfil
    obtain rfl:=ho.sl.len'
    clear hfil
    simp only [Option.isSome_some]
    obtain ⟨g7,o7,rfl⟩:=SlI.notNil ho.sl (by omega)
    have hrl:rest.length=e.length-(k+1):=by
     have h:=congrArg List.length HM.out.eq
     simp only [List.length_append,t.post_length] at h
     omega
    have hrest:e.drop (k+1)=rest:=by
     rw [show k+1=(pre++t.post).length by rw [List.length_append,t.post_length];omega,HM.out.eq,List.drop_left]
    have HPRE:=H_ (show RdI w7 (.slice (some ⟨eb,eoff,none⟩) pre.length ecap) pre by
     have h:=SlI.take HE7.out pre.length (by omega)
     rwa [show e.take pre.length=pre by rw [HM.out.eq,List.append_assoc,List.take_left]] at h)
    have HTL:=H_ (HE7.out.dropI (k+1) (by omega))
    rw [hrest,←hrl] at HTL
    have HX:=H_ ho
    have HK:=H_ (And.intro hx2 hx3)
    have hx16:x.length≤1600:=hx2
    have c2:=K7.out.cell 2
    have z1:((k:Int)+1).toNat=k+1:=by omega
    have z2:(0:Int)≤(k:Int)+1:=by omega
    have z3:(k:Int)+1≤e.length:=by omega
    have z4:(k:Int)+1≤ecap:=by omega
    have z5:((e.length:Int)-((k:Int)+1)).toNat=rest.length:=by omega
    have z6:k+1≤e.length:=by omega
    have z7:k+1≤ecap:=by omega
    have z8:e.length-(k+1)=rest.length:=by omega
    have y1:(pre.length:Int)≤ecap:=by omega
    have y2:pre.length≤ecap:=by omega
    have y3:pre.length≤40:=by omega
    have y4:IntKind.i64.wrap ((k:Int)+1)=(k:Int)+1:=by simp [IntKind.wrap,IntKind.bits,IntKind.signed];omega
    have hc7:w7.drew.cell? ⟨w.heap.size,2,none⟩=some (.int .i64 k):=c2
    clear ho hx1 hx2 hx3 HO7 HVAL hrest c2
    go_wp2_with fail
    have y5:(0:Int)≤(pre.length:Int):=by omega
    have y6:(e.length:Int)≤ecap:=by omega
    have y7:(0:Int)≤(e.length:Int):=by omega
    have HRL:=H_ hrl
    clear hrl
    obtain ⟨w8,hw8⟩:∃ w8,w8=(w7.alloc (.cells #[] 3)).drew:=⟨_,rfl⟩
    have hb8:Below w7.heap.size w7 w8:=by rw [hw8];exact ((B_ _ _).alloc (le_ _) _).drew
    have hs8:w8.heap.size=w7.heap.size+1:=by rw [hw8];exact alloc_size _ _
    have HOL:Hid (Own 1 w7.heap.size (w7.heap.size+1) 3 w8 (.slice (some ⟨w7.heap.size,0,none⟩) 0 0) 0 (ints [])):=by rw [hw8];exact H_ (Own.lit 1 3 w7 (ints []) 0 (by omega) rfl)
    have hc8:(w7.alloc (.cells #[] 3)).drew.cell? ⟨w.heap.size,2,none⟩=some (.int .i64 k):=by rw [←hw8,hb8.cell (p:=⟨w.heap.size,2,none⟩) K7.out.lt];exact hc7
    have HW8:=H_ hw8
    have H8:=H_ hb8
    have hkl7:=K7.out.lt
    clear hb8 hw8
    have hcases:ecap=k+1∨¬ecap=k+1:=by omega
    rcases hcases with hcs|hcs
    all_goals (
     have HT2:=HTL.out
     first | rw [if_pos hcs,hcs,Nat.sub_self] at HT2 | rw [if_neg hcs] at HT2
     have HT3:=H_ HT2
     clear HT2
     have zz:(pre.length:Int)≤(k:Int)+1:=by omega
     try subst hcs
     go_region_held3 (fun w'=>w'.cell? ⟨w.heap.size,2,none⟩=some (.int .i64 k)) (first | assumption | go_keep) (first
      | (rw [←HW8.out];refine step_app_sl (by rfl) _ _ 22 (by rfl) 3 (.int .i64 0) 1 8 Tryz.underlying22 info_int (by rfl) (by decide) (by decide) (by rfl) (HOL.out) (by rfl) (SlI.below HPRE.out H8.out (le_ _)) (ints_one _) (by omega) (by omega) ?_;intro v9 w9 ho9 hout9;(have hs9:=hout9.size);(have hc9:w9.cell? ⟨w.heap.size,2,none⟩=some (.int .i64 k):=(World.cell?_of_block (w:=w8) (a:=⟨w.heap.size,2,none⟩) (hout9.block w.heap.size (by omega) (.inl hkl7))).trans (by rw [HW8.out];exact hc8));(have HO9:=H_ ho9);(have H9:=H_ (Below.outside H8.out hout9 (le_ _) H8.out.size));clear ho9 hout9)
      | (refine step_app_sl (by rfl) _ _ 22 (by rfl) 3 (.int .i64 0) 1 8 Tryz.underlying22 info_int (by rfl) (by decide) (by decide) (by rfl) (HO9.out) (by rfl) (SlI.below (OwnI.sl HX.out) H9.out (le_ _)) (ints_one _) (by omega) (by omega) ?_;intro v10 w10 ho10 hout10;(have hs10:=hout10.size);(have hc10:w10.cell? ⟨w.heap.size,2,none⟩=some (.int .i64 k):=(World.cell?_of_block (w:=w9) (a:=⟨w.heap.size,2,none⟩) (hout10.block w.heap.size (by omega) (.inl hkl7))).trans hc9);(have HO10:=H_ ho10);(have H10:=H_ (Below.outside H9.out hout10 (le_ _) H9.out.size));clear ho10 hout10)
      | (refine step_app_sl (by rfl) _ _ 22 (by rfl) 3 (.int .i64 0) 1 8 Tryz.underlying22 info_int (by rfl) (by decide) (by decide) (by rfl) (HO10.out) (by rfl) (SlI.below HT3.out H10.out (le_ _)) (ints_one _) (by omega) (by omega) ?_;intro v11 w11 ho11 hout11;(have hs11:=hout11.size);(have hc11:w11.cell? ⟨w.heap.size,2,none⟩=some (.int .i64 k):=(World.cell?_of_block (w:=w10) (a:=⟨w.heap.size,2,none⟩) (hout11.block w.heap.size (by omega) (.inl hkl7))).trans hc10);(have HO11:=H_ ho11);(have H11:=H_ (Below.outside H10.out hout11 (le_ _) H10.out.size));clear ho11 hout11))
     have HOU:Hid (OwnI w7.heap.size w11.heap.size 3 w11 v11 (pre++x++rest)):=by
      refine H_ ?_
      have h:=HO11.out
      simp only [Nat.zero_add,←ints_append,List.nil_append] at h
      exact OwnI.len h (by simp only [List.length_append])
     have hlen11:(pre++x++rest).length=pre.length+x.length+rest.length:=by simp only [List.length_append]
     have HB11:=H_ (HB7.out.trans (H11.out.mono hszw))
     have hkv:=HK.out.2
     have hbg:(pre++x++rest).length≤1048576:=by omega
     generalize pre++x++rest=out at HOU HR hkv hlen11 hbg
     obtain ⟨a11,c11,rfl,_⟩:=Own.open HOU.out
     have HKV:=H_ hkv
     have HLL:=H_ hlen11
     clear HO11 HO10 HO9 H8 H9 H10 hc11 hc10 hc9 hc8 hkv hlen11
     go_wp2_with fail
     refine (spec_KatValid _ _ _ out _ HOU.out.sl hbg).mono ?_
     rintro e12 wx ⟨rfl,rfl⟩
     rw [HKV.out]
     by_cases hbig:out.length≤40
     ·have hd:=decide_eq_true hbig
      have HR2:=H_ (HR.out.trans (if_pos hbig))
      rw [hd]
      clear hd hbig
      go_wp2
      refine bodyPost_ret (v:=.tuple #[.slice a11 out.length c11,.bool true]) (by simp [results,Tryz.results99,go_sem]) rfl ⟨_,_,rfl,?_⟩
      rw [HR2.out]
      exact ⟨HB11.out,rfl,Own.wide2 HOU.out hszw (le_ _)⟩
     ·have hd:=decide_eq_false hbig
      have HR2:=H_ (HR.out.trans (if_neg hbig))
      rw [hd]
      clear hd hbig
      go_wp2
      refine bodyPost_ret (v:=.tuple #[.slice (some ⟨w11.heap.size,0,none⟩) 0 0,.bool false]) (by simp [results,Tryz.results99,go_sem]) rfl ⟨_,_,rfl,?_⟩
      rw [HR2.out]
      exact MoveR.fail HB11.out))
theorem spec_MoveDo (ve:Value) (e:List Int) (m:Mv) (w:World) (he:RdI w ve e) (hel:e.length≤1048576) :
  Calls Tryz.prog 99 #[ve,aggM m] w (RetVB (MoveR w (moveV e m))):=by
 cases hc:(katV e&&isR m.which&&inB m.at_ 0 (e.length-1))
 ·exact specMove_bad e m ve w he hel hc
 ·simp only [Bool.and_eq_true] at hc
  obtain ⟨⟨hv,hr⟩,ha⟩:=hc
  obtain ⟨k,hk,hlt⟩:∃ k:Nat,m.at_=k∧k<e.length:=⟨m.at_.toNat,by simp [inB] at ha;omega,by simp [inB] at ha;omega⟩
  obtain ⟨n,hn,hn21⟩:∃ n:Nat,m.which=n∧n<21:=⟨m.which.toNat,by simp [isR,inB] at hr;omega,by simp [isR,inB] at hr;omega⟩
  obtain ⟨pre,rest,t,p,q,hM⟩:=move_open hv hr hk hlt
  obtain ⟨wh,bk,at_⟩:=m
  subst hk hn
  exact specMove_main ve e n bk k w he hn21 hv hlt pre rest t p q hM
end Go.Proofs.YtfnnhimopokpnaaGreatDoor
