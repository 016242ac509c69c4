/- Lemmas for this seat; no condition. -/
import Derived.Test.YtfnnhimopokpnaaGreatDoorHAAI
namespace Go.Proofs.YtfnnhimopokpnaaGreatDoor
open Go.RowKit
set_option maxRecDepth 100000
set_option maxHeartbeats 0
set_option linter.unusedVariables false
def easyAt (a:Nat):List Mv:=easyN.map fun n=>⟨(n:Nat),false,(a:Nat)⟩
def restE (e:List Int) (a:Nat):List Mv:=((List.range e.length).drop a).flatMap easyAt
theorem restE_end (e:List Int) (a:Nat) (h:e.length≤a):restE e a=[]:=by unfold restE;rw [List.drop_of_length_le (by simpa using h)];rfl
theorem restE_next (e:List Int) (a:Nat) (h:a<e.length):restE e a=easyAt a++restE e (a+1):=by
 unfold restE
 rw [List.drop_eq_getElem_cons (by simpa using h)]
 simp
theorem easyAt_len (a:Nat):(easyAt a).length=11:=rfl
theorem easyAt_drop (a j:Nat) (h:j<11):(easyAt a).drop j=⟨((easyN[j]'h:Nat):Int),false,(a:Nat)⟩ :: (easyAt a).drop (j+1):=by
 rw [List.drop_eq_getElem_cons (by rw [easyAt_len];exact h)]
 simp [easyAt]
 rfl
def easyVs:Array Value:=#[.int .i64 2,.int .i64 3,.int .i64 5,.int .i64 6,.int .i64 7,.int .i64 8,.int .i64 15,.int .i64 16,.int .i64 17,.int .i64 18,.int .i64 19]
theorem easyVs_get (j:Nat) (h:j<11):easyVs[j]?=some (.int .i64 ((easyN[j]'h:Nat):Int)):=by
 have hj:j=0∨j=1∨j=2∨j=3∨j=4∨j=5∨j=6∨j=7∨j=8∨j=9∨j=10:=by omega
 rcases hj with rfl|rfl|rfl|rfl|rfl|rfl|rfl|rfl|rfl|rfl|rfl<;>rfl
def RetS (P:Mv→Bool→World→Prop) (e:Ending) (w':World):Prop:=∃ m ok,e=.returned (.tuple #[aggM m,.bool ok])∧P m ok w'
theorem simplerBy_any (ve:Value) (e:List Int) (w:World) (hE:EnvK w) (hx:RdI w ve e) (hv:katV e=true) :
  Calls Tryz.prog 213 #[ve] w (RetS fun m ok w'=>Below w.heap.size w w'∧ok=(firstEasy e).isSome∧∀ m' x,firstEasy e=some (m',x)→m=m'):=by
 have hl40:=(kat_len hv).2
 have HX:=H_ hx
 have HE:=H_ hE
 have HV:=H_ hv
 obtain ⟨ea,ecap,rfl,_⟩:=hx.open
 have HF:Hid (firstEasy e=tryMv e (restE e 0)):=H_ rfl
 obtain ⟨w0,hw0⟩:∃ w0,w0=w.alloc (.cells #[.int .i64 0,.bool false,.int .i64 0] 67):=⟨_,rfl⟩
 have hb0:Below w.heap.size w w0:=by rw [hw0];exact (B_ _ _).alloc (le_ _) _
 have K0:=H_ (show Blk w.heap.size (.cells #[.int .i64 0,.bool false,.int .i64 0] 67) w0 by rw [hw0];exact Blk.new w _)
 have HB0:=H_ hb0
 have HW0:=H_ hw0
 clear hx hE hv hb0 hw0
 go_enter Tryz.func213,Tryz.ntmps213
 go_wp2
 simp only [←HW0.out]
 go_loopw [12] (fun i wr=>∃ a:Nat,a≤e.length∧i=.int .i64 a∧Hid (Below w.heap.size w wr∧Blk w.heap.size (.cells #[.int .i64 0,.bool false,.int .i64 0] 67) wr∧firstEasy e=tryMv e (restE e a))) (fun i _=>e.length-(intOf i).toNat)
 case atStart=>exact ⟨0,by omega,rfl,H_ ⟨HB0.out,K0.out,HF.out⟩⟩
 case round=>
  obtain ⟨a,ha,rfl,HQ⟩:=hrel
  have HB:=H_ HQ.out.1
  have hsz:=HB.out.size
  by_cases hlt:a<e.length
  ·have HFA:=H_ (HQ.out.2.2.trans (by rw [restE_next e a hlt]))
   obtain ⟨w1,hw1⟩:∃ w1,w1=wr.alloc (.cells easyVs 3):=⟨_,rfl⟩
   have hb1:Below wr.heap.size wr w1:=by rw [hw1];exact (B_ _ _).alloc (le_ _) _
   obtain ⟨gE,hgE⟩:∃ gE,gE=wr.heap.size:=⟨_,rfl⟩
   have HKE:=H_ (show Blk gE (.cells easyVs 3) w1 by rw [hw1,hgE];exact Blk.new wr _)
   have HB1:=H_ (HB.out.trans (hb1.mono hsz))
   have HK1:=H_ (HQ.out.2.1.below hb1 HQ.out.2.1.lt)
   have HW1:=H_ hw1
   clear hb1 hw1 HB0 K0
   go_wp2
   simp only [show (Obj.cells #[.int .i64 2,.int .i64 3,.int .i64 5,.int .i64 6,.int .i64 7,.int .i64 8,.int .i64 15,.int .i64 16,.int .i64 17,.int .i64 18,.int .i64 19] 3)=.cells easyVs 3 from rfl,←HW1.out]
   have HG:=H_ hgE
   clear hgE
   simp only [←HG.out]
   go_loopw [17] (fun i wr=>∃ j:Nat,j≤11∧i=.int .i64 j∧Hid (Below w.heap.size w wr∧Blk w.heap.size (.cells #[.int .i64 0,.bool false,.int .i64 0] 67) wr∧Blk gE (.cells easyVs 3) wr∧firstEasy e=tryMv e ((easyAt a).drop j++restE e (a+1)))) (fun i _=>11-(intOf i).toNat)
   case atStart=>exact ⟨0,by omega,rfl,H_ ⟨HB1.out,HK1.out,HKE.out,HFA.out⟩⟩
   case round=>
    obtain ⟨j,hj,rfl,HI⟩:=hrel
    have HBX:=H_ HI.out.1
    have hszx:=HBX.out.size
    have HKX:=H_ HI.out.2.1
    have HEX:=H_ HI.out.2.2.1
    by_cases hjl:j<11
    ·have HFJ:=H_ (HI.out.2.2.2.trans (by rw [easyAt_drop a j hjl];rfl:_=tryMv e (⟨((easyN[j]'hjl:Nat):Int),false,(a:Nat)⟩ :: ((easyAt a).drop (j+1)++restE e (a+1)))))
     have hcell:wr.cell? ⟨gE,j,none⟩=some (.int .i64 ((easyN[j]'hjl:Nat):Int)):=(HEX.out.cell j).trans (easyVs_get j hjl)
     generalize (easyN[j]'hjl)=n at HFJ hcell
     obtain ⟨w2,hw2⟩:∃ w2,w2=wr.alloc (.cells #[.int .i64 (n:Nat),.bool false,.int .i64 (a:Nat)] 67):=⟨_,rfl⟩
     have hb2:Below wr.heap.size wr w2:=by rw [hw2];exact (B_ _ _).alloc (le_ _) _
     have KM:=H_ (show Blk wr.heap.size (.cells #[.int .i64 (n:Nat),.bool false,.int .i64 (a:Nat)] 67) w2 by rw [hw2];exact Blk.new wr _)
     have HB2:=H_ (HBX.out.trans (hb2.mono hszx))
     have HK2:=H_ (HKX.out.below hb2 HKX.out.lt)
     have HE2:=H_ (HEX.out.below hb2 HEX.out.lt)
     have hs2:=HB2.out.size
     have HW2:=H_ hw2
     have k0:=KM.out.cell 0
     have k1:=KM.out.cell 1
     have k2:=KM.out.cell 2
     clear hb2 hw2 HI
     go_wp2_with (rw [←HW2.out])
     refine (do_any _ e ⟨n,false,a⟩ w2 (HE.out.below HB2.out) (HX.out.below HB2.out) HV.out).mono ?_
     rintro e3 w3 ⟨v3,x3,rfl,hb3,hres⟩
     have HB3:=H_ (HB2.out.trans (hb3.mono hs2))
     have HK3:=H_ (HK2.out.below hb3 HK2.out.lt)
     have HE3:=H_ (HE2.out.below hb3 HE2.out.lt)
     have KM3:=H_ (KM.out.below hb3 KM.out.lt)
     clear hb3 hcell HKX HEX HK2 HE2 KM k0 k1 k2
     cases hmv:moveV e ⟨n,false,a⟩ with
     | none=>
      rw [hmv] at hres
      obtain ⟨rfl,g,rfl,_⟩:=hres
      have HN:=H_ (HFJ.out.trans (by rw [tryMv,hmv]:_=tryMv e ((easyAt a).drop (j+1)++restE e (a+1))))
      clear hmv
      go_wp2
      go_roundw
      case rel=>exact ⟨j+1,by omega,by go_num,H_ ⟨HB3.out,HK3.out,HE3.out,HN.out⟩⟩
      case measure=>simp [intOf];omega
     | some y=>
      rw [hmv] at hres
      obtain ⟨rfl,ho3⟩:=hres
      have HN:=H_ (HFJ.out.trans (by rw [tryMv,hmv]:_=some ((⟨n,false,a⟩:Mv),y)))
      obtain ⟨ya,yc,rfl,_⟩:=Own.open ho3
      have m0:=KM3.out.cell 0
      have m1:=KM3.out.cell 1
      have m2:=KM3.out.cell 2
      have r0:=HK3.out.cell 0
      have r1:=HK3.out.cell 1
      have r2:=HK3.out.cell 2
      have f0:=HK3.out.free 0
      have f1:=HK3.out.free 1
      have f2:=HK3.out.free 2
      obtain ⟨wz,hwz⟩:∃ wz,wz=((w3.setCell ⟨w.heap.size,0,none⟩ (.int .i64 (n:Nat))).setCell ⟨w.heap.size,1,none⟩ (.bool false)).setCell ⟨w.heap.size,2,none⟩ (.int .i64 (a:Nat)):=⟨_,rfl⟩
      have KZ:=HK3.out.set3 (.int .i64 (n:Nat)) (.bool false) (.int .i64 (a:Nat))
      have hOZ:=Outside.set3 w.heap.size w3 (.int .i64 (n:Nat)) (.bool false) (.int .i64 (a:Nat))
      rw [←hwz] at KZ hOZ
      have HZ:=H_ (Below.outside HB3.out hOZ (le_ _) HB3.out.size)
      have q0:=KZ.cell 0
      have q1:=KZ.cell 1
      have q2:=KZ.cell 2
      clear hmv ho3 KZ hOZ
      go_wp2
      simp only [←hwz]
      clear hwz
      refine bodyPost_ret (v:=.tuple #[.agg #[.int .i64 (n:Nat),.bool false,.int .i64 (a:Nat)],.bool true]) (by simp [results,Tryz.results213,go_sem,q0,q1,q2]) rfl ⟨⟨n,false,a⟩,true,rfl,HZ.out,?_,?_⟩
      ·rw [HN.out];rfl
      ·intro m' x h
       rw [HN.out] at h
       injection h with h
       injection h with h _
    ·obtain rfl:j=11:=by omega
     have HN:=H_ (HI.out.2.2.2)
     rw [show (easyAt a).drop 11=[] from rfl,List.nil_append] at HN
     clear HI
     go_wp2
     go_roundw
     case rel=>exact ⟨a+1,by omega,by go_num,H_ ⟨HBX.out,HKX.out,HN.out⟩⟩
     case measure=>simp [intOf];omega
  ·obtain rfl:a=e.length:=by omega
   have HN:=H_ HQ.out.2.2
   rw [restE_end e _ (le_ _)] at HN
   have HK:=H_ HQ.out.2.1
   have r0:=HK.out.cell 0
   have r1:=HK.out.cell 1
   have r2:=HK.out.cell 2
   have f0:=HK.out.free 0
   have f1:=HK.out.free 1
   have f2:=HK.out.free 2
   obtain ⟨wz,hwz⟩:∃ wz,wz=((wr.setCell ⟨w.heap.size,0,none⟩ (.int .i64 0)).setCell ⟨w.heap.size,1,none⟩ (.bool false)).setCell ⟨w.heap.size,2,none⟩ (.int .i64 0):=⟨_,rfl⟩
   have KZ:=HK.out.set3 (.int .i64 0) (.bool false) (.int .i64 0)
   have hOZ:=Outside.set3 w.heap.size wr (.int .i64 0) (.bool false) (.int .i64 0)
   rw [←hwz] at KZ hOZ
   have HZ:=H_ (Below.outside HB.out hOZ (le_ _) HB.out.size)
   have q0:=KZ.cell 0
   have q1:=KZ.cell 1
   have q2:=KZ.cell 2
   clear KZ hOZ HQ HK
   go_wp2
   simp only [←hwz]
   clear hwz
   refine bodyPost_ret (v:=.tuple #[.agg #[.int .i64 0,.bool false,.int .i64 0],.bool false]) (by simp [results,Tryz.results213,go_sem,q0,q1,q2]) rfl ⟨⟨0,false,0⟩,false,rfl,HZ.out,?_,?_⟩
   ·rw [HN.out];rfl
   ·intro m' x h
    rw [HN.out] at h
    cases h
def lenOf:Value→Nat
 | .slice _ n _=>n
 | _=>0
theorem mvs_append (a b:List Mv):mvs (a++b)=mvs a++mvs b:=by simp [mvs]
def SimS (B:Nat) (w wr:World) (vm vo:Value) (ms:List Mv) (x:List Int):Prop:=
 Below B w wr∧OwnM B wr.heap.size 67 wr vm ms∧∃ lo hi,SlI lo hi wr vo x∧hi≤wr.heap.size∧∀ g,vm.ownBlock=some g→g<lo∨hi≤g
theorem SimS.below {B:Nat} {w wr w':World} {vm vo:Value} {ms:List Mv} {x:List Int} (h:SimS B w wr vm vo ms x) (hB:B≤wr.heap.size) (hb:Below wr.heap.size wr w'):SimS B w w' vm vo ms x:=by
 obtain ⟨h1,h2,lo,hi,h3,h4,h5⟩:=h
 exact ⟨h1.trans (hb.mono hB),Own.wide (h2.below hb (le_ _)) hb.size,lo,hi,h3.below hb h4,Nat.le_trans h4 hb.size,h5⟩
theorem SimS.rd {B:Nat} {w wr:World} {vm vo:Value} {ms:List Mv} {x:List Int} (h:SimS B w wr vm vo ms x):RdI wr vo x:=by
 obtain ⟨_,_,lo,hi,h3,h4,_⟩:=h
 exact SlI.rd h3 h4
theorem SimS.step {B:Nat} {w w2 w3 w4:World} {vm vo v3 v4:Value} {ms:List Mv} {x y:List Int} {m:Mv} (h:SimS B w w2 vm vo ms x) (hB:B≤w2.heap.size) (hb:Below w2.heap.size w2 w3) (ho:OwnI w2.heap.size w3.heap.size 3 w3 v3 y)
  (h4:Own 3 B w4.heap.size 67 w4 v4 (ms.length+1) (mvs ms++encMv m)) (hg:(w3.alloc (.cells (encMv m).toArray 67)).grownBy w4 vm.ownBlock) (hl:v4.ownBlock=vm.ownBlock∨v4.ownBlock=some (w3.heap.size+1)) :
  SimS B w w4 v4 v3 (ms++[m]) y:=by
 obtain ⟨h1,h2,_⟩:=h
 have hs:=hg.size
 have hs3:(w3.alloc (.cells (encMv m).toArray 67)).heap.size=w3.heap.size+1:=by simp
 have hs2:=hb.size
 have hlt:=Own.lt h2
 refine ⟨?_,?_,w2.heap.size,w3.heap.size,?_,by omega,fun g hg'=>?_⟩
 ·have h5:Below B w (w3.alloc (.cells (encMv m).toArray 67)):=(h1.trans (hb.mono hB)).alloc (by omega) _
  refine ⟨hg.os.trans h5.os,hg.tape.trans h5.tape,hg.output.trans h5.output,Nat.le_trans h5.size hs,fun i hi=>?_⟩
  rw [hg.block i (by omega) (fun e=>by have:=hlt i e.symm;omega)]
  exact h5.block i hi
 ·unfold OwnM
  rw [List.length_append,mvs_append]
  simpa [mvs] using h4
 ·have h6:SlI w2.heap.size w3.heap.size (w3.alloc (.cells (encMv m).toArray 67)) v3 y:=hxa_of ho.sl _
  obtain ⟨a,cap,e1,e2,e3,e4,e5,e6⟩:=h6
  refine ⟨a,cap,e1,e2,e3,e4,e5,fun i hi=>?_⟩
  obtain ⟨b,off,f1,f2,f3,f4,f5⟩:=e6 i hi
  refine ⟨b,off,f1,f2,f3,Nat.lt_of_lt_of_le f4 hs,?_⟩
  rw [World.cell?_of_block (w:=w3.alloc (.cells (encMv m).toArray 67)) (a:=⟨b,off+i,none⟩) (hg.block b f4 (fun e=>by have:=hlt b e.symm;omega))]
  exact f5
 ·rcases hl with e|e
  ·rw [e] at hg'
   have:=hlt g hg'
   exact .inl (by omega)
  ·rw [e] at hg'
   injection hg' with hg'
   exact .inr (by omega)
theorem hoy_of {B:Nat} {w w2 w3 w4:World} {vm vo v3:Value} {ms:List Mv} {x y:List Int} {o:Obj} (h:SimS B w w2 vm vo ms x) (ho:OwnI w2.heap.size w3.heap.size 3 w3 v3 y) (hg:(w3.alloc o).grownBy w4 vm.ownBlock) (hB:B≤w2.heap.size) :
  OwnI B w4.heap.size 3 w4 v3 y:=by
 have hlt:=Own.lt h.2.1
 have hs:=hg.size
 have hs3:(w3.alloc o).heap.size=w3.heap.size+1:=by simp
 have h1:=(Own.alloc ho o).1
 have h2:=World.ownsRow.kept h1 hg (by
  cases hb:v3.ownBlock with
  | none=>exact .inl rfl
  | some g=>
   refine .inr fun e=>?_
   have h3:=(Own.lt ho g hb).1
   have h4:=hlt g e.symm
   omega)
 exact Own.wide2 ⟨h2,fun g hg'=>by have:=(Own.lt ho g hg').2;omega⟩ hB (le_ _)
theorem encMv_one (m:Mv):∀ u∈encMv m,u.oneCell'=true:=by
 intro u hu
 simp [encMv] at hu
 rcases hu with rfl|rfl|rfl<;>rfl
def RetVV (P:Value→Value→World→Prop) (e:Ending) (w':World):Prop:=∃ a b,e=.returned (.tuple #[a,b])∧P a b w'
theorem simplify_any (ve:Value) (e:List Int) (w:World) (hE:EnvK w) (hx:RdI w ve e) (hv:katV e=true) :
  Calls Tryz.prog 187 #[ve] w (RetVV fun a b w'=>SimS w.heap.size w w' a b (simpM e).1 (simpM e).2∧OwnI w.heap.size w'.heap.size 3 w' b (simpM e).2):=by
 have hl40:=(kat_len hv).2
 have hsb:=simpM_bd _ e (le_ _)
 have HX:=H_ hx
 have HE:=H_ hE
 have HV:=H_ hv
 obtain ⟨ea,ecap,rfl,_⟩:=hx.open
 clear hx hE hv
 go_enter Tryz.func187,Tryz.ntmps187
 go_wp2_with fail
 refine (cloneI_any _ _ _ e _ HX.out (by omega)).mono ?_
 rintro e1 w1 ⟨v1,rfl,hb1,ho1⟩
 have HB1:=H_ hb1
 have HO1:=H_ ho1
 obtain ⟨a1,c1,rfl,_⟩:=Own.open ho1
 clear hb1 ho1
 go_wp2
 go_loopw [4,5] (fun vm vo wr=>∃ (ms:List Mv) (x:List Int),ms.length+x.length≤e.length∧Hid (SimS w.heap.size w wr vm vo ms x∧OwnI w.heap.size wr.heap.size 3 wr vo x∧katV x=true∧simpM e=(ms++(simpM x).1,(simpM x).2))) (fun _ vo _=>lenOf vo)
 case atStart=>exact ⟨[],e,by simp,H_ ⟨⟨HB1.out,Own.nil _ _ _ _ _,w.heap.size,w1.heap.size,HO1.out.sl,le_ _,fun g hg=>by cases hg⟩,HO1.out,HV.out,by simp⟩⟩
 case round=>
  obtain ⟨ms,x,hlen,HQ⟩:=hrel
  obtain ⟨oa,oc,rfl,_⟩:=Own.open HQ.out.2.1
  obtain ⟨na,nc,rfl,_⟩:=Own.open HQ.out.1.2.1
  have hB:=HQ.out.1.1.size
  have HR:=H_ HQ.out.1.rd
  go_wp2_with fail
  refine (simplerBy_any _ x wr (HE.out.below HQ.out.1.1) HR.out HQ.out.2.2.1).mono ?_
  rintro e2 w2 ⟨m,ok,rfl,hb2,rfl,hm⟩
  have HS2:=H_ (HQ.out.1.below hB hb2)
  have HO2:=H_ (HQ.out.2.1.below hb2 (le_ _))
  have HKX:=H_ HQ.out.2.2.1
  have HSM:=H_ HQ.out.2.2.2
  have hs2:=hb2.size
  have hB2:w.heap.size≤w2.heap.size:=by omega
  obtain ⟨w3,hw3⟩:∃ w3,w3=w2.alloc (.cells #[.int .i64 m.which,.bool m.back,.int .i64 m.at_] 67):=⟨_,rfl⟩
  have hb3:Below w2.heap.size w2 w3:=by rw [hw3];exact (B_ _ _).alloc (le_ _) _
  have KM:=H_ (show Blk w2.heap.size (.cells #[.int .i64 m.which,.bool m.back,.int .i64 m.at_] 67) w3 by rw [hw3];exact Blk.new w2 _)
  have HS3:=H_ (HS2.out.below hB2 hb3)
  have HO3:=H_ (HO2.out.below hb3 hs2)
  have hs3:=hb3.size
  have HW3:=H_ hw3
  clear hb2 hb3 hw3 HQ HR
  cases hf:firstEasy x with
  | none=>
   have hsn:=simpM_none hf
   have HFIN:=H_ (show simpM e=(ms,x) by rw [HSM.out,hsn];simp)
   clear hf hm hsn
   simp only [Option.isSome_none]
   go_wp2
   simp only [←HW3.out]
   go_ret2
   refine ⟨_,_,rfl,?_,?_⟩
   ·rw [HFIN.out];exact HS3.out
   ·rw [HFIN.out];exact Own.wide HO3.out (by omega)
  | some p=>
   obtain ⟨m',y⟩:=p
   obtain rfl:=hm m' y hf
   obtain ⟨hmv,hbk,hyl,hky⟩:=firstEasy_some hf
   have hsm:=simpM_some hf
   have HFIN:=H_ (show simpM e=((ms++[m])++(simpM y).1,(simpM y).2) by rw [HSM.out,hsm];simp)
   have HKY:=H_ hky
   have HMV:=H_ hmv
   have k0:=KM.out.cell 0
   have k1:=KM.out.cell 1
   have k2:=KM.out.cell 2
   clear hf hm hsm hky hmv hbk
   simp only [Option.isSome_some]
   go_wp2_with (rw [←HW3.out])
   refine (do_any _ x m w3 (HE.out.below HS3.out.1) HS3.out.rd HKX.out).mono ?_
   rintro e4 w4 ⟨v4,x4,rfl,hb4,hres⟩
   rw [HMV.out] at hres
   obtain ⟨rfl,ho4⟩:=hres
   have HS4:=H_ (HS3.out.below (by omega) hb4)
   have KM4:=H_ (KM.out.below hb4 KM.out.lt)
   have HB4:=H_ hb4
   have HO4:=H_ ho4
   have hs4:=hb4.size
   obtain ⟨ya,yc,rfl,_⟩:=Own.open ho4
   clear hb4 ho4 k0 k1 k2 KM
   have k0:=KM4.out.cell 0
   have k1:=KM4.out.cell 1
   have k2:=KM4.out.cell 2
   have HOM:=H_ (show Own 3 w.heap.size w4.heap.size 67 w4 (.slice na ms.length nc) ms.length (mvs ms) from HS4.out.2.1)
   go_wp2_with (at_builtin;go_loud (refine wpList_app_lit_at w4 rfl _ _ 29 rfl 67 (.agg #[.int .i64 0,.bool false,.int .i64 0]) 3 24 Tryz.underlying29 info_mv rfl (by decide) (by decide) rfl HOM.out 1 (encMv m) rfl rfl (encMv_one m) rfl (by omega) (by omega) ?_))
   intro v5 w5 ho5 hg5 hl5 _
   have HS5:=H_ (SimS.step (m:=m) HS3.out (by omega) HB4.out HO4.out ho5 hg5 hl5)
   have HOY:=H_ (hoy_of HS3.out HO4.out hg5 (by omega))
   obtain ⟨za,zc,rfl,_⟩:=Own.open ho5
   clear ho5 hg5 hl5 k0 k1 k2
   go_wp2
   go_roundw
   case rel=>exact ⟨ms++[m],y,by simp;omega,H_ ⟨HS5.out,HOY.out,HKY.out,HFIN.out⟩⟩
   case measure=>simp [lenOf];omega
theorem l9Easy_any (w:World):Calls Tryz.prog 155 #[] w fun e w'=>e=.returned (.slice (some ⟨w.heap.size,0,none⟩) 11 11)∧w'=w.alloc (.cells easyVs 3):=by
 go_enter Tryz.func155,Tryz.ntmps155
 go_wp2
 go_ret
 exact ⟨rfl,rfl⟩
theorem Own.form {sz lo hi e n:Nat} {w:World} {v:Value} {xs:List Value} (h:Own sz lo hi e w v n xs):∃ a k c,v=.slice a k c:=by
 obtain ⟨a,c,h,_⟩:=Own.open h
 exact ⟨a,n,c,h⟩
def foundOf:Value→Nat
 | .bool true=>0
 | _=>1
def simpBy (e:List Int):List Mv:=if katV e then (simpM e).1 else []
theorem spec_SimpleBy (ve:Value) (e:List Int) (w:World) (hx:RdI w ve e) (hm:e.length≤1048576) :
  Calls Tryz.prog 102 #[ve] w (RetV fun v w'=>Below w.heap.size w w'∧OwnM w.heap.size w'.heap.size 67 w' v (simpBy e)):=by
 have HX:=H_ hx
 obtain ⟨ea,ecap,rfl,_⟩:=hx.open
 obtain ⟨w0,hw0⟩:∃ w0,w0=w.alloc (.cells #[] 67):=⟨_,rfl⟩
 have hb0:Below w.heap.size w w0:=by rw [hw0];exact (B_ _ _).alloc (le_ _) _
 have hs0:w0.heap.size=w.heap.size+1:=by rw [hw0];simp
 have HO0:Hid (OwnM w.heap.size w0.heap.size 67 w0 (.slice (some ⟨w.heap.size,0,none⟩) 0 0) []):=by rw [hw0];exact H_ (Own.wide (Own.lit 3 67 w [] 0 (by omega) rfl) (by simp))
 have HB0:=H_ hb0
 have HX0:=H_ (SlI.below HX.out hb0 (le_ _))
 have HW0:=H_ hw0
 clear hx hb0 hw0
 go_enter Tryz.func102,Tryz.ntmps102
 go_wp2
 simp only [←HW0.out]
 go_loopw [3,4] (fun vm vo wr=>∃ (ms:List Mv) (x:List Int),x.length≤1048576∧ms.length≤40∧Hid (SimS w.heap.size w wr vm vo ms x∧((katV e=true∧katV x=true∧ms.length+x.length≤e.length∧simpM e=(ms++(simpM x).1,(simpM x).2))∨(katV e=false∧ms=[]∧x=e)))) (fun _ vo _=>lenOf vo)
 case atStart=>
  refine ⟨[],e,hm,by simp,H_ ⟨⟨HB0.out,HO0.out,0,w.heap.size,HX0.out,by omega,fun g hg=>?_⟩,?_⟩⟩
  ·simp [Value.ownBlock] at hg
   omega
  ·cases hk:katV e
   ·exact .inr ⟨rfl,rfl,rfl⟩
   ·exact .inl ⟨rfl,rfl,by simp,by simp⟩
 case round=>
  obtain ⟨ms,x,hxl,hml,HQ⟩:=hrel
  have HR:=H_ HQ.out.1.rd
  obtain ⟨oa,oc,rfl,_⟩:=HR.out.open
  obtain ⟨na,nc,rfl,_⟩:=Own.open HQ.out.1.2.1
  have hB:=HQ.out.1.1.size
  go_wp2_with fail
  refine (spec_KatValid _ _ _ x _ HR.out hxl).mono ?_
  rintro e1 wx ⟨rfl,rfl⟩
  rcases HQ.out.2 with ⟨hke,hkx,hlen,hsm⟩|⟨hke,rfl,rfl⟩
  ·rw [hkx]
   have hl40:=(kat_len hkx).2
   have HKE:=H_ hke
   have HKX:=H_ hkx
   have HSM:=H_ hsm
   have HS:=H_ HQ.out.1
   have HF:Hid (firstEasy x=tryMv x (restE x 0)):=H_ rfl
   clear hke hkx hsm HQ HR HX0 HO0 HB0
   go_wp2
   go_loopw [3,4,5,6] (fun vm vo fd i wr=>∃ a:Nat,i=.int .i64 a∧((fd=.bool false∧vm=.slice na ms.length nc∧vo=.slice oa x.length oc∧a≤x.length∧Hid (SimS w.heap.size w wr vm vo ms x∧firstEasy x=tryMv x (restE x a)))∨(fd=.bool true∧a≤41∧∃ m y,Hid (SimS w.heap.size w wr vm vo (ms++[m]) y∧firstEasy x=some (m,y))))) (fun _ _ fd i _=>foundOf fd*(42-(intOf i).toNat))
   case atStart=>exact ⟨0,rfl,.inl ⟨rfl,rfl,rfl,by omega,H_ ⟨HS.out,HF.out⟩⟩⟩
   case round=>
    obtain ⟨a,rfl,⟨rfl,rfl,rfl,ha,HI⟩|⟨rfl,ha,m,y,HI⟩⟩:=hrel
    ·by_cases hlt:a<x.length
     ·have HFA:=H_ (HI.out.2.trans (by rw [restE_next x a hlt]))
      have hsz:=HI.out.1.1.size
      obtain ⟨w1,hw1⟩:∃ w1,w1=wr.alloc (.cells easyVs 3):=⟨_,rfl⟩
      have hb1:Below wr.heap.size wr w1:=by rw [hw1];exact (B_ _ _).alloc (le_ _) _
      obtain ⟨gE,hgE⟩:∃ gE,gE=wr.heap.size:=⟨_,rfl⟩
      have HKE:=H_ (show Blk gE (.cells easyVs 3) w1 by rw [hw1,hgE];exact Blk.new wr _)
      have HS1:=H_ (HI.out.1.below hsz hb1)
      have HW1:=H_ hw1
      have HG:=H_ hgE
      clear hb1 hw1 hgE HI
      go_wp2_with (go_at_call 155;refine (l9Easy_any _).mono ?_;rintro e2 wx2 ⟨rfl,rfl⟩;simp only [←HW1.out,←HG.out])
      go_loopw [3,4,5,8] (fun vm vo fd i wr=>∃ j:Nat,i=.int .i64 j∧((fd=.bool false∧vm=.slice na ms.length nc∧vo=.slice oa x.length oc∧j≤11∧Hid (SimS w.heap.size w wr vm vo ms x∧Blk gE (.cells easyVs 3) wr∧firstEasy x=tryMv x ((easyAt a).drop j++restE x (a+1))))∨(fd=.bool true∧j≤12∧∃ m y,Hid (SimS w.heap.size w wr vm vo (ms++[m]) y∧firstEasy x=some (m,y))))) (fun _ _ fd i _=>foundOf fd*(13-(intOf i).toNat))
      case atStart=>exact ⟨0,rfl,.inl ⟨rfl,rfl,rfl,by omega,H_ ⟨HS1.out,HKE.out,HFA.out⟩⟩⟩
      case round=>
       obtain ⟨j,rfl,⟨rfl,rfl,rfl,hj,HJ⟩|⟨rfl,hj,m,y,HJ⟩⟩:=hrel
       ·have HSJ:=H_ HJ.out.1
        have hszj:=HSJ.out.1.size
        have HEJ:=H_ HJ.out.2.1
        by_cases hjl:j<11
        ·have HFJ:=H_ (HJ.out.2.2.trans (by rw [easyAt_drop a j hjl];rfl:_=tryMv x (⟨((easyN[j]'hjl:Nat):Int),false,(a:Nat)⟩ :: ((easyAt a).drop (j+1)++restE x (a+1)))))
         have hcell:wr.cell? ⟨gE,j,none⟩=some (.int .i64 ((easyN[j]'hjl:Nat):Int)):=(HEJ.out.cell j).trans (easyVs_get j hjl)
         generalize (easyN[j]'hjl)=n at HFJ hcell
         obtain ⟨w2,hw2⟩:∃ w2,w2=wr.alloc (.cells #[.int .i64 (n:Nat),.bool false,.int .i64 (a:Nat)] 67):=⟨_,rfl⟩
         have hb2:Below wr.heap.size wr w2:=by rw [hw2];exact (B_ _ _).alloc (le_ _) _
         have KM:=H_ (show Blk wr.heap.size (.cells #[.int .i64 (n:Nat),.bool false,.int .i64 (a:Nat)] 67) w2 by rw [hw2];exact Blk.new wr _)
         have HS2:=H_ (HSJ.out.below hszj hb2)
         have HE2:=H_ (HEJ.out.below hb2 HEJ.out.lt)
         have hs2:=HS2.out.1.size
         have HW2:=H_ hw2
         have k0:=KM.out.cell 0
         have k1:=KM.out.cell 1
         have k2:=KM.out.cell 2
         clear hb2 hw2 HJ
         go_wp2_with (rw [←HW2.out])
         refine (spec_MoveDo _ x ⟨n,false,a⟩ w2 HS2.out.rd hxl).mono ?_
         rintro e3 w3 ⟨v3,b3,rfl,hb3,rfl,ho3⟩
         have HB3:=H_ hb3
         have hs3:=hb3.size
         have HS3:=H_ (HS2.out.below hs2 hb3)
         have HE3:=H_ (HE2.out.below hb3 HE2.out.lt)
         have KM3:=H_ (KM.out.below hb3 KM.out.lt)
         obtain ⟨ya,yc,rfl,_⟩:=Own.open ho3
         clear hb3 hcell HSJ HEJ HE2 KM k0 k1 k2
         cases hmv:moveV x ⟨n,false,a⟩ with
         | none=>
          have HN:=H_ (HFJ.out.trans (by rw [tryMv,hmv]:_=tryMv x ((easyAt a).drop (j+1)++restE x (a+1))))
          clear hmv ho3
          simp only [Option.isSome_none]
          go_wp2
          go_roundw
          case rel=>exact ⟨j+1,by go_num,.inl ⟨rfl,rfl,rfl,by omega,H_ ⟨HS3.out,HE3.out,HN.out⟩⟩⟩
          case measure=>simp [intOf,foundOf];omega
         | some y=>
          rw [hmv] at ho3
          have HN:=H_ (HFJ.out.trans (by rw [tryMv,hmv]:_=some ((⟨n,false,a⟩:Mv),y)))
          have HO3:=H_ (show OwnI w2.heap.size w3.heap.size 3 w3 (.slice ya y.length yc) y from ho3)
          have m0:=KM3.out.cell 0
          have m1:=KM3.out.cell 1
          have m2:=KM3.out.cell 2
          have HOM:=H_ (show Own 3 w.heap.size w3.heap.size 67 w3 (.slice na ms.length nc) ms.length (mvs ms) from HS3.out.2.1)
          clear hmv ho3
          simp only [Option.isSome_some,Option.getD_some]
          go_wp2_with (at_builtin;go_loud (refine wpList_app_lit_at w3 rfl _ _ 29 rfl 67 (.agg #[.int .i64 0,.bool false,.int .i64 0]) 3 24 Tryz.underlying29 info_mv rfl (by decide) (by decide) rfl HOM.out 1 (encMv ⟨n,false,a⟩) rfl rfl (encMv_one _) rfl (by omega) (by omega) ?_))
          intro v5 w5 ho5 hg5 hl5 _
          have HS5:=H_ (SimS.step (m:=⟨n,false,a⟩) HS2.out (by omega) HB3.out HO3.out ho5 hg5 hl5)
          obtain ⟨za,zc,rfl,_⟩:=Own.open ho5
          clear ho5 hg5 hl5 m0 m1 m2
          go_wp2
          go_roundw
          case rel=>exact ⟨j+1,by go_num,.inr ⟨rfl,by omega,⟨n,false,a⟩,y,H_ ⟨HS5.out,HN.out⟩⟩⟩
          case measure=>simp [intOf,foundOf];omega
        ·obtain rfl:j=11:=by omega
         have HN:=H_ HJ.out.2.2
         rw [show (easyAt a).drop 11=[] from rfl,List.nil_append] at HN
         clear HJ HEJ
         go_wp2
         go_roundw
         case rel=>exact ⟨a+1,by go_num,.inl ⟨rfl,rfl,rfl,by omega,H_ ⟨HSJ.out,HN.out⟩⟩⟩
         case measure=>simp [intOf,foundOf];omega
       ·obtain ⟨pa,pn,pc,rfl⟩:=Own.form HJ.out.1.2.1
        obtain ⟨qa,qc,rfl,_⟩:=HJ.out.1.rd.open
        by_cases hjl:j<11
        ·go_wp2
         go_roundw
         case rel=>exact ⟨a+1,by go_num,.inr ⟨rfl,by omega,m,y,HJ⟩⟩
         case measure=>simp [intOf,foundOf];omega
        ·go_wp2
         go_roundw
         case rel=>exact ⟨a+1,by go_num,.inr ⟨rfl,by omega,m,y,HJ⟩⟩
         case measure=>simp [intOf,foundOf];omega
     ·obtain rfl:a=x.length:=by omega
      have HN:=H_ HI.out.2
      rw [restE_end x _ (le_ _)] at HN
      have hsn:=simpM_none (show firstEasy x=none from HN.out)
      have HFIN:=H_ (show simpBy e=ms by rw [simpBy,HKE.out,if_pos rfl,HSM.out,hsn];simp)
      clear hsn
      go_wp2
      go_ret
      refine RetV.mk _ rfl ⟨HI.out.1.1,?_⟩
      rw [HFIN.out]
      exact HI.out.1.2.1
    ·obtain ⟨pa,pn,pc,rfl⟩:=Own.form HI.out.1.2.1
     obtain ⟨qa,qc,rfl,_⟩:=HI.out.1.rd.open
     obtain ⟨hmv,hbk,hyl,hky⟩:=firstEasy_some HI.out.2
     have hsm:=simpM_some HI.out.2
     have HFIN:=H_ (show simpM e=((ms++[m])++(simpM y).1,(simpM y).2) by rw [HSM.out,hsm];simp)
     have HKY:=H_ hky
     have hml2:(ms++[m]).length=ms.length+1:=by simp
     have he40:=(kat_len HKE.out).2
     clear hmv hky hsm hbk
     by_cases hlt:a<y.length
     all_goals (
      go_wp2
      go_roundw
      case rel=>exact ⟨ms++[m],y,by omega,by omega,H_ ⟨HI.out.1,.inl ⟨HKE.out,HKY.out,by omega,HFIN.out⟩⟩⟩
      case measure=>simp [lenOf];omega)
  ·rw [hke]
   have HOUT:=H_ (show simpBy x=[] by simp [simpBy,hke])
   clear hke
   go_wp2
   go_ret
   refine RetV.mk _ rfl ⟨HQ.out.1.1.alloc hB _,?_⟩
   rw [HOUT.out]
   exact Own.wide2 (Own.lit 3 67 _ [] 0 (by omega) rfl) hB (by simp)
theorem simpBy_len (e:List Int):(simpBy e).length≤40:=by
 unfold simpBy
 split
 ·rename_i h
  have:=simpM_bd _ e (le_ _)
  have:=(kat_len h).2
  omega
 ·simp
theorem impl_SimpleBy (ve:Value) (e:List Int) (w:World) (hE:EnvK w) (hx:RdI w ve e) (hm:e.length≤1048576) :
  Calls Tryz.prog 150 #[ve] w (RetV fun v w'=>Below w.heap.size w w'∧OwnM w.heap.size w'.heap.size 67 w' v (simpBy e)):=by
 have HX:=H_ hx
 have HE:=H_ hE
 obtain ⟨ea,ecap,rfl,_⟩:=hx.open
 clear hx hE
 cases hkv:katV e
 ·have HR:=H_ (show simpBy e=[] by simp [simpBy,hkv])
  go_enter Tryz.func150,Tryz.ntmps150
  go_wp2_with fail
  refine (impl_KatValid _ _ _ e _ HX.out hm).mono ?_
  rintro e1 w1 ⟨rfl,rfl⟩
  rw [hkv]
  go_wp2
  go_ret
  exact RetV.mk _ rfl ⟨B_ _ _,by rw [HR.out];exact Own.nil _ _ _ _ _⟩
 ·have HR:=H_ (show simpBy e=(simpM e).1 by simp [simpBy,hkv])
  have HKV:=H_ hkv
  go_enter Tryz.func150,Tryz.ntmps150
  go_wp2_with fail
  refine (impl_KatValid _ _ _ e _ HX.out hm).mono ?_
  rintro e1 w1 ⟨rfl,rfl⟩
  rw [hkv]
  clear hkv
  go_wp2_with fail
  refine (simplify_any _ e _ HE.out HX.out HKV.out).mono ?_
  rintro e2 w2 ⟨va,vb,rfl,hs,ho⟩
  have HS:=H_ hs
  obtain ⟨na,nc,rfl,_⟩:=Own.open hs.2.1
  obtain ⟨oa,oc,rfl,_⟩:=Own.open ho
  clear hs ho
  go_wp2
  go_ret
  exact RetV.mk _ rfl ⟨HS.out.1,by rw [HR.out];exact HS.out.2.1⟩
structure Ac where
 kind:Int
 step:Mv
 count:Int
deriving DecidableEq
def zAc:Ac:=⟨0,⟨0,false,0⟩,0⟩
def zMv (m:Mv):Bool:=(m.which==0)&&(!m.back)&&(m.at_==0)
def namedB (a:Ac):Bool:=if a.kind==0 then a.count==0 else if a.kind==1 then zMv a.step else if a.kind==2 then zMv a.step&&(a.count==0) else false
theorem named_any (a:Ac) (w:World) :
  Calls Tryz.prog 131 #[.agg #[.int .i64 a.kind,.int .i64 a.step.which,.bool a.step.back,.int .i64 a.step.at_,.int .i64 a.count]] w fun e w'=>e=.returned (.bool (namedB a))∧Below w.heap.size w w':=by
 obtain ⟨k,⟨p,b,q⟩,c⟩:=a
 have hb:Hid (∀ o,Below w.heap.size w (w.alloc o)):=H_ fun o=>(B_ _ _).alloc (le_ _) _
 cases h0:k==0
 ·cases h1:k==1
  ·cases h2:k==2
   ·go_enter Tryz.func131,Tryz.ntmps131
    go_wp2
    go_ret
    exact ⟨ret_bool (by simp [namedB,h0,h1,h2]),hb.out _⟩
   ·cases h3:p==0
    ·go_enter Tryz.func131,Tryz.ntmps131
     go_wp2
     go_ret
     exact ⟨ret_bool (by simp [namedB,zMv,h0,h1,h2,h3]),hb.out _⟩
    ·cases b
     ·cases h4:q==0
      ·go_enter Tryz.func131,Tryz.ntmps131
       go_wp2
       go_ret
       exact ⟨ret_bool (by simp [namedB,zMv,h0,h1,h2,h3,h4]),hb.out _⟩
      ·go_enter Tryz.func131,Tryz.ntmps131
       go_wp2
       go_ret
       exact ⟨ret_bool (by simp [namedB,zMv,h0,h1,h2,h3,h4]),hb.out _⟩
     ·go_enter Tryz.func131,Tryz.ntmps131
      go_wp2
      go_ret
      exact ⟨ret_bool (by simp [namedB,zMv,h0,h1,h2,h3]),hb.out _⟩
  ·cases h3:p==0
   ·go_enter Tryz.func131,Tryz.ntmps131
    go_wp2
    go_ret
    exact ⟨ret_bool (by simp [namedB,zMv,h0,h1,h3]),hb.out _⟩
   ·cases b
    ·cases h4:q==0
     ·go_enter Tryz.func131,Tryz.ntmps131
      go_wp2
      go_ret
      exact ⟨ret_bool (by simp [namedB,zMv,h0,h1,h3,h4]),hb.out _⟩
     ·go_enter Tryz.func131,Tryz.ntmps131
      go_wp2
      go_ret
      exact ⟨ret_bool (by simp [namedB,zMv,h0,h1,h3,h4]),hb.out _⟩
    ·go_enter Tryz.func131,Tryz.ntmps131
     go_wp2
     go_ret
     exact ⟨ret_bool (by simp [namedB,zMv,h0,h1,h3]),hb.out _⟩
 ·go_enter Tryz.func131,Tryz.ntmps131
  go_wp2
  go_ret
  exact ⟨ret_bool (by simp [namedB,h0]),hb.out _⟩
theorem l10Named_any (a:Ac) (w:World) :
  Calls Tryz.prog 100 #[.agg #[.int .i64 a.kind,.int .i64 a.step.which,.bool a.step.back,.int .i64 a.step.at_,.int .i64 a.count]] w fun e w'=>e=.returned (.bool (namedB a))∧Below w.heap.size w w':=by
 obtain ⟨k,⟨p,b,q⟩,c⟩:=a
 have hb:Hid (∀ o,Below w.heap.size w (w.alloc o)):=H_ fun o=>(B_ _ _).alloc (le_ _) _
 cases h0:k==0
 ·cases h1:k==1
  ·cases h2:k==2
   ·go_enter Tryz.func100,Tryz.ntmps100
    go_wp2
    go_ret
    exact ⟨ret_bool (by simp [namedB,h0,h1,h2]),hb.out _⟩
   ·cases h3:p==0
    ·go_enter Tryz.func100,Tryz.ntmps100
     go_wp2
     go_ret
     exact ⟨ret_bool (by simp [namedB,zMv,h0,h1,h2,h3]),hb.out _⟩
    ·cases b
     ·cases h4:q==0
      ·go_enter Tryz.func100,Tryz.ntmps100
       go_wp2
       go_ret
       exact ⟨ret_bool (by simp [namedB,zMv,h0,h1,h2,h3,h4]),hb.out _⟩
      ·cases h5:c==0
       ·go_enter Tryz.func100,Tryz.ntmps100
        go_wp2
        go_ret
        exact ⟨ret_bool (by simp [namedB,zMv,h0,h1,h2,h3,h4,h5]),hb.out _⟩
       ·go_enter Tryz.func100,Tryz.ntmps100
        go_wp2
        go_ret
        exact ⟨ret_bool (by simp [namedB,zMv,h0,h1,h2,h3,h4,h5]),hb.out _⟩
     ·go_enter Tryz.func100,Tryz.ntmps100
      go_wp2
      go_ret
      exact ⟨ret_bool (by simp [namedB,zMv,h0,h1,h2,h3]),hb.out _⟩
  ·cases h3:p==0
   ·go_enter Tryz.func100,Tryz.ntmps100
    go_wp2
    go_ret
    exact ⟨ret_bool (by simp [namedB,zMv,h0,h1,h3]),hb.out _⟩
   ·cases b
    ·cases h4:q==0
     ·go_enter Tryz.func100,Tryz.ntmps100
      go_wp2
      go_ret
      exact ⟨ret_bool (by simp [namedB,zMv,h0,h1,h3,h4]),hb.out _⟩
     ·go_enter Tryz.func100,Tryz.ntmps100
      go_wp2
      go_ret
      exact ⟨ret_bool (by simp [namedB,zMv,h0,h1,h3,h4]),hb.out _⟩
    ·go_enter Tryz.func100,Tryz.ntmps100
     go_wp2
     go_ret
     exact ⟨ret_bool (by simp [namedB,zMv,h0,h1,h3]),hb.out _⟩
 ·go_enter Tryz.func100,Tryz.ntmps100
  go_wp2
  go_ret
  exact ⟨ret_bool (by simp [namedB,h0]),hb.out _⟩
end Go.Proofs.YtfnnhimopokpnaaGreatDoor
