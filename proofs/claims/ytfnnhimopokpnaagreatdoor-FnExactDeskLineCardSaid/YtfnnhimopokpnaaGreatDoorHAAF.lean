/- Lemmas for this seat; no condition. -/
import Derived.Test.YtfnnhimopokpnaaGreatDoorHAAE
namespace Go.Proofs.YtfnnhimopokpnaaGreatDoor
open Go.RowKit
set_option maxRecDepth 100000
set_option maxHeartbeats 0
set_option linter.unusedVariables false
theorem hrule3_of {lo hi:Nat} {w w':World} {a b:Value} {L R:List Int} (h:RuleOwn lo hi w a b L R) (hb:Below w.heap.size w w') (hh:hi≤w.heap.size):RdI w' a L∧RdI w' b R:=by
 obtain ⟨m,h1,h2,h3,h4⟩:=h
 exact ⟨(h3.sl.below hb (by omega)).wide (Nat.zero_le _) (Nat.le_trans (Nat.le_trans h2 hh) hb.size),(h4.sl.below hb hh).wide (Nat.zero_le _) (Nat.le_trans hh hb.size)⟩
theorem SlI.len' {lo hi n c:Nat} {w:World} {a:Option Addr} {xs:List Int} (h:SlI lo hi w (.slice a n c) xs):n=xs.length:=by
 obtain ⟨_,_,e,_⟩:=h
 injection e
theorem SlI.take {lo hi n cap:Nat} {w:World} {b off:Nat} {xs:List Int} (h:SlI lo hi w (.slice (some ⟨b,off,none⟩) n cap) xs) (j:Nat) (hj:j≤xs.length):SlI lo hi w (.slice (some ⟨b,off,none⟩) j cap) (xs.take j):=by
 have h1:=h.sub 0 j (Nat.zero_le _) hj
 simpa using h1
theorem SlI.dropI {lo hi n cap:Nat} {w:World} {b off:Nat} {xs:List Int} (h:SlI lo hi w (.slice (some ⟨b,off,none⟩) n cap) xs) (i:Nat) (hi':i≤xs.length) :
  SlI lo hi w (.slice (if cap=i then some ⟨b,off,none⟩ else some ⟨b,off+i,none⟩) (n-i) (cap-i)) (xs.drop i):=by
 have hn:=h.len'
 subst hn
 have hc:xs.length≤cap:=by obtain ⟨_,_,e,h1,_⟩:=h;injection e with _ _ e;subst e;exact h1
 have h1:=h.sub i xs.length hi' (le_ _)
 rw [List.take_of_length_le (by simp)] at h1
 split
 ·rename_i hci
  have h0:xs.length-i=0:=by omega
  have hx0:xs.drop i=[]:=List.drop_of_length_le (by omega)
  rw [hx0,h0]
  exact ⟨_,_,rfl,Nat.zero_le _,by unfold maxLen;omega,rfl,(fun h=>by cases h),fun k hk=>by simp [ints] at hk⟩
 ·exact h1
theorem below_37 {w3 w4 w5 w6 w7:World} (h4:Below w3.heap.size w3 w4) (h5:Below w4.drew.heap.size w4.drew w5) (h6:Below w5.heap.size w5 w6) (h7:Outside w3.heap.size (w3.heap.size+1) w6 w7):Below w3.heap.size w3 w7:=by
 have hd:w4.drew.heap.size=w4.heap.size:=rfl
 have s4:=h4.size
 have s5:=h5.size
 have s6:=h6.size
 exact Below.outside (((h4.drew).trans (h5.mono (by omega))).trans (h6.mono (by omega))) h7 (le_ _) (by omega)
theorem pick_false {w:World} {n:Nat} {a b:Value} {x y:List Int} (h:RdI w a (ruleS n true)∧RdI w b (ruleS n false)) (hx:x=ruleS n (!false)) (hy:y=ruleS n false):RdI w a x∧RdI w b y:=by subst hx hy;exact h
theorem pick_true {w:World} {n:Nat} {a b:Value} {x y:List Int} (h:RdI w a (ruleS n true)∧RdI w b (ruleS n false)) (hx:x=ruleS n (!true)) (hy:y=ruleS n true):RdI w b x∧RdI w a y:=by subst hx hy;exact ⟨h.2,h.1⟩
theorem do_main (ve:Value) (e:List Int) (n:Nat) (bk:Bool) (k:Nat) (w:World) (hE:EnvK w) (hx:RdI w ve e) (hn21:n<21) (hlt:k<e.length) (pre rest:List Int) (t p:KT) (q:List Int) (hM:MoveO e ⟨n,bk,k⟩ k pre rest t p q) :
  Calls Tryz.prog 122 #[ve,.agg #[.int .i64 n,.bool bk,.int .i64 k]] w (RetVE (DoR w (moveV e ⟨n,bk,k⟩))):=by
 have hr':inB (n:Int) 0 20=true:=by simp [inB];omega
 obtain ⟨w0,hw0⟩:∃ w0,w0=w.alloc (.cells #[.int .i64 n,.bool bk,.int .i64 k] 67):=⟨_,rfl⟩
 have hb0:Below w.heap.size w w0:=by rw [hw0];exact (B_ _ _).alloc (le_ _) _
 have hs0:w0.heap.size=w.heap.size+1:=by rw [hw0];simp
 have K:=H_ (show Blk w.heap.size (.cells #[.int .i64 n,.bool bk,.int .i64 k] 67) w0 by rw [hw0];exact Blk.new w _)
 have HB:=H_ hb0
 have HE:=H_ (hE.below hb0)
 have HX:=H_ (hx.below hb0)
 have HW0:=H_ hw0
 have HM:=H_ hM
 obtain ⟨ea,ecap,rfl,hec,hecm,_⟩:=hx.open
 have hk0:¬(k:Int)<0:=by omega
 have hkl:¬(e.length:Int)≤k:=by omega
 have hkn:¬e.length≤k:=by omega
 have hel:=hM.el
 have c0:=K.out.cell 0
 have c2:=K.out.cell 2
 obtain ⟨eb,eoff,rfl⟩:=SlI.notNil hx (by omega)
 clear hx hE hb0 hw0 hM
 unfold maxLen at hecm
 have hmm:=@run_makeMap Tryz.prog
 go_enter Tryz.func122,Tryz.ntmps122
 go_wp2_with (first | rw [←HW0.out] | (go_at_call 145;refine (isRule_any _ _).mono ?_;rintro e w' ⟨rfl,rfl⟩))
 refine (ruleOf_any n hn21 _ HE.out).mono ?_
 rintro e1 w1 ⟨ra,rb,rfl,hb1,hrule⟩
 obtain ⟨la,ln,lc,rfl⟩:∃ x l c,ra=.slice x l c:=by obtain ⟨_,_,_,h3,_⟩:=hrule;obtain ⟨x,c,h,_⟩:=Own.open h3;exact ⟨x,_,c,h⟩
 obtain ⟨lb,lm,ld,rfl⟩:∃ x l c,rb=.slice x l c:=by obtain ⟨_,_,_,_,h3⟩:=hrule;obtain ⟨x,c,h,_⟩:=Own.open h3;exact ⟨x,_,c,h⟩
 obtain ⟨wa,hwa⟩:∃ wa,wa=w1.alloc (.cells #[.slice none 0 0,.slice none 0 0] 161):=⟨_,rfl⟩
 have KA:Blk w1.heap.size (.cells #[.slice none 0 0,.slice none 0 0] 161) wa:=by rw [hwa];exact Blk.new w1 _
 have HWA:=H_ hwa
 have f0:=KA.free 0
 have f1:=KA.free 1
 have r0:=KA.cell 0
 have r1:=KA.cell 1
 obtain ⟨w2,hw2⟩:∃ w2,w2=(wa.setCell ⟨w1.heap.size,0,none⟩ (.slice la ln lc)).setCell ⟨w1.heap.size,1,none⟩ (.slice lb lm ld):=⟨_,rfl⟩
 have KR:=H_ (show Blk w1.heap.size _ w2 by rw [hw2];exact KA.set2 (.slice la ln lc) (.slice lb lm ld))
 have hba:Below w1.heap.size w1 wa:=by rw [hwa];exact (B_ _ _).alloc (le_ _) _
 have hsa:wa.heap.size=w1.heap.size+1:=by rw [hwa];simp
 have hb2:Below w1.heap.size w1 w2:=by rw [hw2];exact Below.outside hba (Outside.set2 _ _ _ _) (le_ _) (by omega)
 have HW2:=H_ hw2
 have hs1:=hb1.size
 have hs2:=hb2.size
 have HRU:=H_ (hrule.below hb2 (le_ _))
 have HB2:=H_ ((HB.out.trans (hb1.mono HB.out.size)).trans (hb2.mono (by omega)))
 have K2:=H_ ((K.out.below hb1 K.out.lt).below hb2 (by have:=K.out.lt;omega))
 have HX2:=H_ ((HX.out.below hb1).below hb2)
 have HE2:=H_ ((HE.out.below hb1).below hb2)
 clear hwa KA hw2 hb2 hba hb1 hrule HE K HB HX c0 c2
 go_wp2_with (first | rw [←HWA.out] | rw [←HW2.out])
 have q0:=KR.out.cell 0
 have q1:=KR.out.cell 1
 go_quiet (fail)
 obtain ⟨w3,hw3⟩:∃ w3,w3=w2.drewN nq:=⟨_,rfl⟩
 have hb3:Below w2.heap.size w2 w3:=by rw [hw3];exact below_drewN (B_ _ _) _
 have HW3:=H_ hw3
 have hs3:=hb3.size
 have HB3:=H_ (HB2.out.trans (hb3.mono (by omega)))
 have K3:=H_ (K2.out.below hb3 (by have:=K2.out.lt;omega))
 have HX3:=H_ (HX2.out.below hb3)
 have HRU3:=H_ (hrule3_of HRU.out hb3 (by omega))
 clear q0 q1 f0 f1 r0 r1 hw3 hb3 K2 HX2 HE2 HB2 HRU KR
 have c1:=K3.out.cell 1
 have c2:=K3.out.cell 2
 rw [←HW3.out]
 have HSP:=H_ HM.out.span
 have HF:Hid (p.post=ruleS n (!bk)):=H_ HM.out.from_
 have HT:Hid (q=ruleS n bk):=H_ HM.out.to_
 have hkeq:=HM.out.keq
 have htsz:=HM.out.sz
 have htpos:=t.size_pos
 have hpsz:=HM.out.psz
 have hql:=HM.out.ql
 cases bk
 all_goals (
  first | have HFT:=H_ (pick_false HRU3.out HF.out HT.out) | have HFT:=H_ (pick_true HRU3.out HF.out HT.out)
  obtain rfl:=HFT.out.1.len'
  obtain rfl:=HFT.out.2.len'
  clear HRU3
  go_wp2_with fail
  refine (beginOf_any 0 _ _ e k t.size w3 HX3.out (by omega) hlt HSP.out).mono ?_
  rintro e1 wx ⟨x1,rfl,hx1,_,_,rfl⟩
  obtain rfl:x1=(pre.length:Int):=by omega
  obtain ⟨w4,hw4⟩:∃ w4,w4=w3.alloc (.map #[] 0):=⟨_,rfl⟩
  have hb4:Below w3.heap.size w3 w4:=by rw [hw4];exact (B_ _ _).alloc (le_ _) _
  have hs4:w4.heap.size=w3.heap.size+1:=by rw [hw4];simp
  have HMV:=H_ (show MapV w3.heap.size w4 zeroV by rw [hw4];exact MapV.made w3)
  have HB4:=H_ (HB3.out.trans (hb4.mono (by omega)))
  have K4:=H_ (K3.out.below hb4 K3.out.lt)
  have HX4:=H_ (HX3.out.below hb4)
  have HFT4:=H_ (And.intro (HFT.out.1.below hb4) (HFT.out.2.below hb4))
  have HW4:=H_ hw4
  have c4:=K4.out.cell 2
  have hbx:eb<w4.heap.size:=by
   obtain ⟨_,_,e',_,h',_⟩:=HX4.out.get 0 (by omega)
   injection e' with e'
   injection e' with e1 _
   omega
  have HB34:=H_ hb4
  clear hw4 hb4 c1 c2 hx1
  have z1:IntKind.i64.wrap ((k:Int)+1)=(k:Int)+1:=by simp [IntKind.wrap,IntKind.bits,IntKind.signed];omega
  have z2:(0:Int)≤(k:Int)+1:=by omega
  have z3:(pre.length:Int)≤(k:Int)+1:=by omega
  have z4:(k:Int)+1≤ecap:=by omega
  have z5:((k:Int)+1).toNat=k+1:=by omega
  have z6:pre.length≤k+1:=by omega
  have z7:k+1≤ecap:=by omega
  have z8:((k:Int)+1-pre.length).toNat=t.size:=by omega
  have z9:k+1-pre.length=t.size:=by omega
  go_wp2_with (rw [←HW4.out])
  have HPT:Hid (RdI w4 (.slice (some ⟨eb,eoff+pre.length,none⟩) t.size (ecap-pre.length)) t.post):=by
   have h:=HX4.out.sub pre.length (k+1) (by omega) (by omega)
   rw [z9] at h
   have h2:(e.drop pre.length).take t.size=t.post:=by rw [HM.out.eq,List.append_assoc,List.drop_left,←t.post_length,List.take_left]
   rw [h2] at h
   exact H_ h
  have hcd:w4.drew.cell? ⟨w.heap.size,2,none⟩=some (.int .i64 k):=c4
  have hk0s:w.heap.size<w4.heap.size:=K4.out.lt
  have hdz:w4.drew.heap.size=w4.heap.size:=rfl
  have hkbm:w.heap.size<w3.heap.size:=by omega
  have HD4:=H_ (And.intro (RdI.below HFT4.out.1 (Below.drew (B_ w4.heap.size w4))) (RdI.below HPT.out (Below.drew (B_ w4.heap.size w4))))
  have HMD:=H_ (HMV.out.below (Below.drew (B_ w4.heap.size w4)))
  clear c4
  go_region_held3 (fun w'=>w'.cell? ⟨w.heap.size,2,none⟩=some (.int .i64 k)) (first | assumption | go_keep) (first
   | (go_at_call_of 132 p;refine (implBuild _ p.post p _ HD4.out.1 (by rw [p.post_length];omega) (runK_post (-3) p HM.out.pok [])).mono ?_;rintro e5 w5 ⟨p5,rfl,hb5,hrt5⟩;obtain ⟨pa5,rfl⟩:=hrt5.isPtr;(have hz5:=hb5.size);(have hc5:w5.cell? ⟨w.heap.size,2,none⟩=some (.int .i64 k):=(hb5.cell (p:=⟨w.heap.size,2,none⟩) (by show w.heap.size<w4.drew.heap.size;exact hk0s)).trans hcd);(have H5:=H_ (And.intro hb5 hrt5));clear hb5 hrt5)
   | (go_at_call_of 132 ecap;refine (implBuild _ t.post t _ (RdI.below HD4.out.2 H5.out.1) (by rw [t.post_length];omega) (runK_post 0 t HM.out.ok [])).mono ?_;rintro e6 w6 ⟨p6,rfl,hb6,hrt6⟩;obtain ⟨pa6,rfl⟩:=hrt6.isPtr;(have hz6:=hb6.size);(have hc6:w6.cell? ⟨w.heap.size,2,none⟩=some (.int .i64 k):=(hb6.cell (p:=⟨w.heap.size,2,none⟩) (by show w.heap.size<w5.heap.size;omega)).trans hc5);(have H6:=H_ (And.intro hb6 hrt6));clear hb6 hrt6)
   | (go_at_call 165;refine (match_any p t zeroV w6 w4.heap.size w3.heap.size _ _ HM.out.pok (by omega) HM.out.ok htsz GV.zero ((H5.out.2.below H6.out.1).lower (by omega)) (H6.out.2.lower (by omega)) (by omega) ((HMD.out.below H5.out.1).below H6.out.1)).mono ?_;rintro e7 w7 ⟨b7,rfl,rfl,ho7,hx7⟩;(have hz7:=ho7.size);(have hc7:w7.cell? ⟨w.heap.size,2,none⟩=some (.int .i64 k):=(World.cell?_of_block (w:=w6) (a:=⟨w.heap.size,2,none⟩) (ho7.block w.heap.size (by omega) (.inl (by omega)))).trans hc6);(have H7:=H_ (And.intro ho7 hx7));clear ho7 hx7))
  have HB37:=H_ (below_37 HB34.out H5.out.1 H6.out.1 H7.out.1)
  have HB7:=H_ (HB3.out.trans (HB37.out.mono (by omega)))
  have hs7:=HB7.out.size
  have HX7:=H_ (HX3.out.below HB37.out)
  have K7:=H_ (K3.out.below HB37.out (by omega))
  have HT7:=H_ (HFT.out.2.below HB37.out)
  have HMX:=H_ H7.out.2
  have c7:=K7.out.cell 2
  clear HB34 H5 H6 H7 HMD HD4 HPT HFT4 HMV HX4 K4 HB4 HB37 HX3 K3 HFT HB3 hcd hc5 hc6 hc7 z1 z2 z3 z4 z5 z6 z7 z8 z9 hz5 hz6
  cases hres:matchT p t zeroV with
  | none=>
   have HR:Hid (moveV e ⟨n,_,k⟩=none):=H_ (by rw [HM.out.mv,hres];rfl)
   clear hres
   simp only [Option.isSome_none]
   go_wp2
   go_region
   all_goals (
    go_wp2
    refine bodyPost_ret (v:=.tuple #[.slice none 0 0,.iface 171 (.pointer (some ⟨w7.heap.size,0,none⟩))]) (by simp [results,Tryz.results122,go_sem]) rfl ⟨_,_,rfl,DoR.fail HR.out (Below.drew (HB7.out.alloc (by omega) _)) (by omega)⟩)
  | some V=>
   have HR:=H_ (HM.out.mv)
   rw [hres] at HR
   simp only [Option.isSome_some]
   have HG:=H_ (matchT_good p t zeroV V HM.out.ok htsz GV.zero hres)
   have HVAL:=H_ (fun x hx=>HM.out.val V x hres hx)
   have hrl:rest.length=e.length-(k+1):=by
    have h:=congrArg List.length HM.out.eq
    simp only [List.length_append,t.post_length] at h
    omega
   have hrest:e.drop (k+1)=rest:=by
    rw [show k+1=(pre++t.post).length by rw [List.length_append,t.post_length];omega,HM.out.eq,List.drop_left]
   have HRS:=H_ (And.intro hrl hrest)
   clear hrl hrest
   have HMV7:=H_ (HMX.out V hres)
   have HPRE:=H_ (show SlI 0 w7.heap.size w7 (.slice (some ⟨eb,eoff,none⟩) pre.length ecap) pre by
    have h:=SlI.take HX7.out pre.length (by omega)
    rwa [show e.take pre.length=pre by rw [HM.out.eq,List.append_assoc,List.take_left]] at h)
   have y1:(pre.length:Int)≤ecap:=by omega
   have y2:pre.length≤ecap:=by omega
   have y3:pre.length≤40:=by omega
   clear hres HMX
   go_wp2_with fail
   refine (cloneI_any 0 w7.heap.size _ pre w7 HPRE.out (by omega)).mono ?_
   rintro e8 w8 ⟨v8,rfl,hb8,ho8⟩
   have hs8:=hb8.size
   have HB8:=H_ hb8
   have HO8:=H_ ho8
   obtain ⟨a8,c8,rfl,_⟩:=Own.open ho8
   clear hb8 ho8 c7
   have HQL:=H_ HM.out.qlo
   go_wp2
   go_loopw [11,79] (fun v i wr=>∃ (j:Nat) (acc:List Int),j≤q.length∧i=.int .i64 j∧acc.length≤40+40*j∧Hid (Own 1 w7.heap.size wr.heap.size 3 wr v acc.length (ints acc)∧Below w7.heap.size w7 wr∧∃ x,acc=pre++x∧fillT q V=(fillT (q.drop j) V).map (x++·))) (fun _ i _=>q.length-(intOf i).toNat)
   case atStart=>exact ⟨0,pre,by omega,rfl,by omega,H_ ⟨HO8.out,HB8.out,[],by simp,by rw [List.drop_zero];cases fillT q V<;>simp⟩⟩
   case round=>
    obtain ⟨j,acc,hj,rfl,hal,HR2⟩:=hrel
    have HO:=H_ HR2.out.1
    have HBR:=H_ HR2.out.2.1
    obtain ⟨x,hx1,hx2⟩:=HR2.out.2.2
    have HAX:=H_ hx1
    have HF:=H_ hx2
    obtain ⟨oa,ocap,rfl,_⟩:=Own.open HO.out
    have hszr:=HBR.out.size
    have HBW:=H_ (HB7.out.trans (HBR.out.mono hs7))
    have cr2:=(K7.out.below HBR.out K7.out.lt).cell 2
    clear hx1 hx2 HR2
    by_cases hjl:j<q.length
    ·obtain ⟨tb,toff,rfl,_,_,_,hcq⟩:=(HT7.out.below HBR.out).get j hjl
     obtain ⟨s,hs⟩:∃ s,s=q[j]:=⟨_,rfl⟩
     have hst:=fillT_step q V j hjl
     have hslo:=HQL.out j hjl
     rw [←hs] at hcq hst hslo
     have HST:=H_ hst
     clear hst hs
     by_cases h0:0≤s
     ·have HF2:Hid (fillT q V=(fillT (q.drop (j+1)) V).map ((x++[s])++·)):=by
       refine H_ ?_
       rw [HF.out,HST.out,if_pos h0]
       cases fillT (q.drop (j+1)) V<;>simp
      go_wp2_with (at_builtin;go_loud (refine wpList_app_lit wr rfl _ _ 22 rfl 3 (.int .i64 0) 1 8 Tryz.underlying22 info_int rfl (by decide) (by decide) rfl HO.out 1 (ints [s]) rfl rfl (ints_one _) rfl (by omega) (by omega) ?_))
      intro v9 w9 ho9 hout9 _
      have HO9:=H_ ho9
      have HB9:=H_ (Below.outside HBR.out hout9 (le_ _) HBR.out.size)
      clear ho9 hout9
      go_wp2
      go_roundw
      case rel=>exact ⟨j+1,acc++[s],by omega,by go_num,by simp;omega,H_ ⟨by rw [List.length_append,ints_append];exact HO9.out,HB9.out,x++[s],by rw [HAX.out,List.append_assoc],HF2.out⟩⟩
      case measure=>simp [intOf];omega
     ·obtain ⟨i,hi3,hsi⟩:∃ i:Nat,i<3∧s=-1-(i:Int):=⟨(-1-s).toNat,by omega,by omega⟩
      subst hsi
      have hvk:varK (-1-(i:Int))=i:=by unfold varK;omega
      rw [hvk,if_neg h0] at HST
      have hbd:=HG.out.bd i
      rcases (HMV7.out.below HBR.out).look i hi3 with ⟨hl,hv0⟩|⟨v0,hl,hv0,hsv⟩
      ·have HRN:Hid (moveV e ⟨n,_,k⟩=none):=H_ (by rw [HR.out,Option.bind_some,HF.out,HST.out,if_pos hv0];rfl)
       clear hv0 HST
       go_wp2
       go_region
       all_goals (
        go_wp2
        refine bodyPost_ret (v:=.tuple #[.slice none 0 0,.iface 171 (.pointer (some ⟨wr.heap.size,0,none⟩))]) (by simp [results,Tryz.results122,go_sem]) rfl ⟨_,_,rfl,DoR.fail HRN.out (Below.drew (HBW.out.alloc (by omega) _)) (by omega)⟩)
      ·generalize V.getD i []=Q at HST hbd hv0 hsv hl
       obtain ⟨ya,yc,rfl,_⟩:=Sl.shape hsv
       have HSV:=H_ hsv
       have HF2:Hid (fillT q V=(fillT (q.drop (j+1)) V).map ((x++Q)++·)):=by
        refine H_ ?_
        rw [HF.out,HST.out,if_neg hv0]
        cases fillT (q.drop (j+1)) V<;>simp
       clear hsv hv0 HST hvk
       go_wp2_with (at_builtin;go_loud (refine wpList_app_sl rfl _ _ 22 rfl 3 (.int .i64 0) 1 8 Tryz.underlying22 info_int rfl (by decide) (by decide) rfl HO.out rfl HSV.out (ints_one _) (by omega) (by omega) ?_))
       intro v9 w9 ho9 _ hout9 _
       have HO9:=H_ ho9
       have HB9:=H_ (Below.outside HBR.out hout9 (le_ _) HBR.out.size)
       clear ho9 hout9
       go_wp2
       go_roundw
       case rel=>exact ⟨j+1,acc++Q,by omega,by go_num,by simp only [List.length_append];omega,H_ ⟨by rw [List.length_append,ints_append];exact HO9.out,HB9.out,x++Q,by rw [HAX.out,List.append_assoc],HF2.out⟩⟩
       case measure=>simp [intOf];omega
    ·obtain rfl:j=q.length:=by omega
     have hFq:fillT q V=some x:=by rw [HF.out,fillT_end _ _ _ (le_ _)];simp
     obtain ⟨_,hv2,_⟩:=HVAL.out x hFq
     have HFQ:=H_ hFq
     have HTL:=H_ ((HX7.out.below HBR.out).dropI (k+1) (by omega))
     rw [HRS.out.2] at HTL
     have hrl:=HRS.out.1
     have hal2:acc.length≤1640:=by rw [HAX.out,List.length_append];omega
     have z1:((k:Int)+1).toNat=k+1:=by omega
     have z2:(0:Int)≤(k:Int)+1:=by omega
     have z3:(k:Int)+1≤e.length:=by omega
     have z4:(k:Int)+1≤ecap:=by omega
     have z5:((e.length:Int)-((k:Int)+1)).toNat=rest.length:=by omega
     have z6:k+1≤e.length:=by omega
     have z7:k+1≤ecap:=by omega
     have z8:e.length-(k+1)=rest.length:=by omega
     rw [z8] at HTL
     clear hFq hrl
     have hcases:ecap=k+1∨¬ecap=k+1:=by omega
     rcases hcases with hcs|hcs
     all_goals (
      have HT2:=HTL.out
      first | rw [if_pos hcs,hcs,Nat.sub_self] at HT2 | rw [if_neg hcs] at HT2
      have HT3:=H_ HT2
      clear HT2
      try subst hcs
      go_wp2_with (at_builtin;go_loud (refine wpList_app_sl rfl _ _ 22 rfl 3 (.int .i64 0) 1 8 Tryz.underlying22 info_int rfl (by decide) (by decide) rfl HO.out rfl HT3.out (ints_one _) (by omega) (by omega) ?_))
      intro v9 w9 ho9 _ hout9 _
      have HO9:Hid (OwnI w7.heap.size w9.heap.size 3 w9 v9 (pre++x++rest)):=by
       rw [←HAX.out]
       refine H_ ?_
       unfold OwnI
       rw [List.length_append,ints_append]
       exact ho9
      have HB9:=H_ (HB7.out.trans ((Below.outside HBR.out hout9 (le_ _) HBR.out.size).mono hs7))
      have hlen9:(pre++x++rest).length=acc.length+rest.length:=by rw [←HAX.out,List.length_append]
      obtain ⟨a9,c9,rfl,_⟩:=Own.open ho9
      have cr9:=(K7.out.below ((Below.outside HBR.out hout9 (le_ _) HBR.out.size)) K7.out.lt).cell 2
      have hs9:=hout9.size
      have HMV9:=H_ (HR.out)
      rw [Option.bind_some,HFQ.out,Option.bind_some,hlen9] at HMV9
      have HL9:=H_ hlen9
      clear ho9 hout9 hlen9 cr2
      by_cases hbig:acc.length+rest.length≤40
      ·rw [if_pos hbig] at HMV9
       go_wp2
       refine bodyPost_ret (v:=.tuple #[.slice a9 (acc.length+rest.length) c9,.nilIface]) (by simp [results,Tryz.results122,go_sem]) rfl ⟨_,_,rfl,?_⟩
       rw [HMV9.out]
       have h:=HO9.out
       unfold OwnI at h
       rw [HL9.out] at h
       refine ⟨HB9.out,rfl,?_⟩
       unfold OwnI
       rw [HL9.out]
       exact Own.wide2 h hs7 (le_ _)
      ·rw [if_neg hbig] at HMV9
       go_wp2
       go_region
       all_goals (
        go_wp2
        refine bodyPost_ret (v:=.tuple #[.slice none 0 0,.iface 171 (.pointer (some ⟨w9.heap.size,0,none⟩))]) (by simp [results,Tryz.results122,go_sem]) rfl ⟨_,_,rfl,DoR.fail HMV9.out (Below.drew (HB9.out.alloc (by omega) _)) (by omega)⟩)))
theorem do_any (ve:Value) (e:List Int) (m:Mv) (w:World) (hE:EnvK w) (hx:RdI w ve e) (hv:katV e=true) :
  Calls Tryz.prog 122 #[ve,aggM m] w (RetVE (DoR w (moveV e m))):=by
 cases hr:isR m.which
 ·exact do_norule ve e m w hr
 ·cases ha:inB m.at_ 0 (e.length-1)
  ·exact do_nostep ve e m w hx hr ha
  ·obtain ⟨k,hk,hlt⟩:∃ k:Nat,m.at_=k∧k<e.length:=⟨m.at_.toNat,by simp [inB] at ha;omega,by simp [inB] at ha;omega⟩
   obtain ⟨n,hn,hn21⟩:∃ n:Nat,m.which=n∧n<21:=⟨m.which.toNat,by simp [isR,inB] at hr;omega,by simp [isR,inB] at hr;omega⟩
   obtain ⟨pre,rest,t,p,q,hM⟩:=move_open hv hr hk hlt
   obtain ⟨wh,bk,at_⟩:=m
   subst hk hn
   exact do_main ve e n bk k w hE hx hn21 hlt pre rest t p q hM
end Go.Proofs.YtfnnhimopokpnaaGreatDoor
