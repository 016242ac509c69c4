/- Lemmas for this seat; no condition. -/
import Derived.Test.YtfnnhimopokpnaaGreatDoorHAAV
namespace Go.Proofs.YtfnnhimopokpnaaGreatDoor
open Go.RowKit
set_option maxRecDepth 100000
set_option maxHeartbeats 0
set_option linter.unusedVariables false
theorem ask_now (lo hi:Nat) (a b c d:Value) (D:Dsk) (w:World) (hE:EnvK w) (hx:DeskAt lo hi w a b c d D) (hh:hi≤w.heap.size) (hm:D.size≤1048576) (hv:deskV D=true) :
  Calls Tryz.prog 49 #[aggD a b c d,.string ⟨#[110,111,119]⟩] w fun e w'=>e=.returned (.string ⟨(katTxt D.now).toArray⟩)∧Below w.heap.size w w':=by
 have HM:=H_ hm
 have HV:=H_ hv
 have hmade:=(deskV_parts hv).2.2.2.1
 obtain ⟨w0,hw0⟩:∃ w0,w0=w.alloc (.cells #[a,b,c,d] 31):=⟨_,rfl⟩
 obtain ⟨hb0,K_,hs0⟩:=box_facts2 hw0
 have K:=H_ K_
 have HX:=H_ (hx.below hb0 hh)
 have HB:=H_ hb0
 have HE:=H_ (hE.below hb0)
 have HW0:=H_ hw0
 have k0:=K.out.cell 0
 have k1:=K.out.cell 1
 have k2:=K.out.cell 2
 have k3:=K.out.cell 3
 unfold Dsk.size at hm
 rw [hw0] at k0 k1 k2 k3
 clear hx hE hb0 K_ hw0 hv
 go_enter Tryz.func49,Tryz.ntmps49
 go_wp2_with fail
 simp only [←HW0.out]
 refine (impl_KatText_any _ D.now w0 (SlI.rd HX.out.now (by omega)) (by omega) HE.out.map).mono ?_
 rintro e1 w1 ⟨rfl,hb1⟩
 have HB1:=H_ (HB.out.trans (hb1.mono (by omega)))
 clear hb1 k0 k1 k2 k3
 go_wp2
 go_ret
 exact ⟨rfl,HB1.out⟩
theorem ask_first (lo hi:Nat) (a b c d:Value) (D:Dsk) (w:World) (hE:EnvK w) (hx:DeskAt lo hi w a b c d D) (hh:hi≤w.heap.size) (hm:D.size≤1048576) (hv:deskV D=true) :
  Calls Tryz.prog 49 #[aggD a b c d,.string ⟨#[102,105,114,115,116]⟩] w fun e w'=>e=.returned (.string ⟨(katTxt D.first).toArray⟩)∧Below w.heap.size w w':=by
 have HM:=H_ hm
 have HV:=H_ hv
 have hmade:=(deskV_parts hv).2.2.2.1
 obtain ⟨w0,hw0⟩:∃ w0,w0=w.alloc (.cells #[a,b,c,d] 31):=⟨_,rfl⟩
 obtain ⟨hb0,K_,hs0⟩:=box_facts2 hw0
 have K:=H_ K_
 have HX:=H_ (hx.below hb0 hh)
 have HB:=H_ hb0
 have HE:=H_ (hE.below hb0)
 have HW0:=H_ hw0
 have k0:=K.out.cell 0
 have k1:=K.out.cell 1
 have k2:=K.out.cell 2
 have k3:=K.out.cell 3
 unfold Dsk.size at hm
 rw [hw0] at k0 k1 k2 k3
 clear hx hE hb0 K_ hw0 hv
 go_enter Tryz.func49,Tryz.ntmps49
 go_wp2_with fail
 simp only [←HW0.out]
 refine (impl_KatText_any _ D.first w0 (SlI.rd HX.out.first (by omega)) (by omega) HE.out.map).mono ?_
 rintro e1 w1 ⟨rfl,hb1⟩
 have HB1:=H_ (HB.out.trans (hb1.mono (by omega)))
 clear hb1 k0 k1 k2 k3
 go_wp2
 go_ret
 exact ⟨rfl,HB1.out⟩
theorem ask_goal (lo hi:Nat) (a b c d:Value) (D:Dsk) (w:World) (hE:EnvK w) (hx:DeskAt lo hi w a b c d D) (hh:hi≤w.heap.size) (hm:D.size≤1048576) (hv:deskV D=true) :
  Calls Tryz.prog 49 #[aggD a b c d,.string ⟨#[103,111,97,108]⟩] w fun e w'=>e=.returned (.string ⟨(katTxt D.goal).toArray⟩)∧Below w.heap.size w w':=by
 have HM:=H_ hm
 have HV:=H_ hv
 have hmade:=(deskV_parts hv).2.2.2.1
 obtain ⟨w0,hw0⟩:∃ w0,w0=w.alloc (.cells #[a,b,c,d] 31):=⟨_,rfl⟩
 obtain ⟨hb0,K_,hs0⟩:=box_facts2 hw0
 have K:=H_ K_
 have HX:=H_ (hx.below hb0 hh)
 have HB:=H_ hb0
 have HE:=H_ (hE.below hb0)
 have HW0:=H_ hw0
 have k0:=K.out.cell 0
 have k1:=K.out.cell 1
 have k2:=K.out.cell 2
 have k3:=K.out.cell 3
 unfold Dsk.size at hm
 rw [hw0] at k0 k1 k2 k3
 clear hx hE hb0 K_ hw0 hv
 go_enter Tryz.func49,Tryz.ntmps49
 go_wp2_with fail
 simp only [←HW0.out]
 refine (impl_KatText_any _ D.goal w0 (SlI.rd HX.out.goal (by omega)) (by omega) HE.out.map).mono ?_
 rintro e1 w1 ⟨rfl,hb1⟩
 have HB1:=H_ (HB.out.trans (hb1.mono (by omega)))
 clear hb1 k0 k1 k2 k3
 go_wp2
 go_ret
 exact ⟨rfl,HB1.out⟩
theorem ask_moves (lo hi:Nat) (a b c d:Value) (D:Dsk) (w:World) (hE:EnvK w) (hx:DeskAt lo hi w a b c d D) (hh:hi≤w.heap.size) (hm:D.size≤1048576) (hv:deskV D=true) :
  Calls Tryz.prog 49 #[aggD a b c d,.string ⟨#[109,111,118,101,115]⟩] w fun e w'=>e=.returned (.string ⟨(dig2 D.made.length).toArray⟩)∧Below w.heap.size w w':=by
 have HM:=H_ hm
 have HV:=H_ hv
 have hmade:=(deskV_parts hv).2.2.2.1
 obtain ⟨w0,hw0⟩:∃ w0,w0=w.alloc (.cells #[a,b,c,d] 31):=⟨_,rfl⟩
 obtain ⟨hb0,K_,hs0⟩:=box_facts2 hw0
 have K:=H_ K_
 have HX:=H_ (hx.below hb0 hh)
 have HB:=H_ hb0
 have HE:=H_ (hE.below hb0)
 have HW0:=H_ hw0
 have k0:=K.out.cell 0
 have k1:=K.out.cell 1
 have k2:=K.out.cell 2
 have k3:=K.out.cell 3
 unfold Dsk.size at hm
 rw [hw0] at k0 k1 k2 k3
 clear hx hE hb0 K_ hw0 hv
 obtain ⟨z0,z1,rfl,_,_⟩:=Sl.shape HX.out.made
 go_enter Tryz.func49,Tryz.ntmps49
 go_wp2_with fail
 simp only [←HW0.out]
 refine (Itoa_q D.made.length w0 (by omega)).mono ?_
 rintro e1 w1 ⟨rfl,rfl⟩
 clear k0 k1 k2 k3
 go_wp2
 go_ret
 exact ⟨rfl,HB.out⟩
theorem ask_done (lo hi:Nat) (a b c d:Value) (D:Dsk) (w:World) (hE:EnvK w) (hx:DeskAt lo hi w a b c d D) (hh:hi≤w.heap.size) (hm:D.size≤1048576) (hv:deskV D=true) :
  Calls Tryz.prog 49 #[aggD a b c d,.string ⟨#[100,111,110,101]⟩] w fun e w'=>e=.returned (.string ⟨(if eqL D.now D.goal then yesT else noT).toArray⟩)∧Below w.heap.size w w':=by
 have HM:=H_ hm
 have HV:=H_ hv
 have hmade:=(deskV_parts hv).2.2.2.1
 obtain ⟨w0,hw0⟩:∃ w0,w0=w.alloc (.cells #[a,b,c,d] 31):=⟨_,rfl⟩
 obtain ⟨hb0,K_,hs0⟩:=box_facts2 hw0
 have K:=H_ K_
 have HX:=H_ (hx.below hb0 hh)
 have HB:=H_ hb0
 have HE:=H_ (hE.below hb0)
 have HW0:=H_ hw0
 have k0:=K.out.cell 0
 have k1:=K.out.cell 1
 have k2:=K.out.cell 2
 have k3:=K.out.cell 3
 unfold Dsk.size at hm
 rw [hw0] at k0 k1 k2 k3
 clear hx hE hb0 K_ hw0 hv
 obtain ⟨E,hE⟩:∃ E,E=eqL D.now D.goal:=⟨_,rfl⟩
 have HD:=H_ (show (deskV D&&eqL D.now D.goal)=E by rw [HV.out,hE];rfl)
 rw [←hE]
 clear hE
 go_enter Tryz.func49,Tryz.ntmps49
 go_wp2_with fail
 simp only [←HW0.out]
 refine (impl_DeskDone _ _ a b c d D w0 HE.out HX.out (by omega) HM.out).mono ?_
 rintro e1 w1 ⟨rfl,hb1⟩
 have HB1:=H_ (HB.out.trans (hb1.mono (by omega)))
 rw [HD.out]
 clear hb1 k0 k1 k2 k3
 cases E
 ·go_wp2
  go_ret
  exact ⟨rfl,HB1.out⟩
 ·go_wp2
  go_ret
  exact ⟨rfl,HB1.out⟩
theorem ask_ends (lo hi:Nat) (a b c d:Value) (D:Dsk) (w:World) (hE:EnvK w) (hx:DeskAt lo hi w a b c d D) (hh:hi≤w.heap.size) (hm:D.size≤1048576) (hv:deskV D=true) :
  Calls Tryz.prog 49 #[aggD a b c d,.string ⟨#[101,110,100,115]⟩] w fun e w'=>e=.returned (.string ⟨(testT (endsK (treeOf D.now))).toArray⟩)∧Below w.heap.size w w':=by
 have HM:=H_ hm
 have HV:=H_ hv
 have hmade:=(deskV_parts hv).2.2.2.1
 obtain ⟨w0,hw0⟩:∃ w0,w0=w.alloc (.cells #[a,b,c,d] 31):=⟨_,rfl⟩
 obtain ⟨hb0,K_,hs0⟩:=box_facts2 hw0
 have K:=H_ K_
 have HX:=H_ (hx.below hb0 hh)
 have HB:=H_ hb0
 have HE:=H_ (hE.below hb0)
 have HW0:=H_ hw0
 have k0:=K.out.cell 0
 have k1:=K.out.cell 1
 have k2:=K.out.cell 2
 have k3:=K.out.cell 3
 unfold Dsk.size at hm
 rw [hw0] at k0 k1 k2 k3
 clear hx hE hb0 K_ hw0 hv
 have HEV:=H_ (endsV_kat (deskV_parts HV.out).2.2.1)
 obtain ⟨n,hn⟩:∃ n,n=endsK (treeOf D.now):=⟨_,rfl⟩
 rw [←hn] at HEV ⊢
 go_enter Tryz.func49,Tryz.ntmps49
 go_wp2_with fail
 simp only [←HW0.out]
 refine (impl_EndsAt _ _ _ D.now w0 HX.out.now (by omega) (by omega)).mono ?_
 rintro e1 w1 ⟨rfl,hb1⟩
 rw [HEV.out.1]
 have HB1:=H_ (HB.out.trans (hb1.mono (by omega)))
 have HM1:=H_ (HE.out.map.below hb1)
 clear hb1 k0 k1 k2 k3 hn
 go_wp2_with fail
 refine (impl_TestText n HEV.out.2 _ HM1.out).mono ?_
 rintro e2 w2 ⟨rfl,rfl⟩
 go_wp2
 go_ret
 exact ⟨rfl,HB1.out⟩
theorem ask_trace (lo hi:Nat) (a b c d:Value) (D:Dsk) (w:World) (hE:EnvK w) (hx:DeskAt lo hi w a b c d D) (hh:hi≤w.heap.size) (hm:D.size≤1048576) (hv:deskV D=true) :
  Calls Tryz.prog 49 #[aggD a b c d,.string ⟨#[116,114,97,99,101]⟩] w fun e w'=>e=.returned (.string ⟨(difT (differV D.now D.goal)).toArray⟩)∧Below w.heap.size w w':=by
 have HM:=H_ hm
 have HV:=H_ hv
 have hmade:=(deskV_parts hv).2.2.2.1
 obtain ⟨w0,hw0⟩:∃ w0,w0=w.alloc (.cells #[a,b,c,d] 31):=⟨_,rfl⟩
 obtain ⟨hb0,K_,hs0⟩:=box_facts2 hw0
 have K:=H_ K_
 have HX:=H_ (hx.below hb0 hh)
 have HB:=H_ hb0
 have HE:=H_ (hE.below hb0)
 have HW0:=H_ hw0
 have k0:=K.out.cell 0
 have k1:=K.out.cell 1
 have k2:=K.out.cell 2
 have k3:=K.out.cell 3
 unfold Dsk.size at hm
 rw [hw0] at k0 k1 k2 k3
 clear hx hE hb0 K_ hw0 hv
 go_enter Tryz.func49,Tryz.ntmps49
 go_wp2_with fail
 simp only [←HW0.out]
 refine (differ_any _ _ _ _ _ _ D.now D.goal w0 HX.out.now HX.out.goal (by omega) (by omega) (by omega) (by omega)).mono ?_
 rintro e1 w1 ⟨r,rfl,hor,hb1⟩
 have hz1:=hb1.size
 have HB1:=H_ (HB.out.trans (hb1.mono (by omega)))
 clear hb1 k0 k1 k2 k3
 rcases hor with ⟨t,v4,ht,rfl,hov,hl⟩|⟨hn,rfl⟩
 ·have HT:=H_ ht
  have HO:=H_ hov
  clear hov ht
  go_wp2_with fail
  refine (impl_TraceText _ _ _ t w1 HO.out.sl (by omega) (le_ _)).mono ?_
  rintro e2 w2 ⟨rfl,hb2⟩
  have HB2:=H_ (HB1.out.trans (hb2.mono (by omega)))
  clear hb2
  go_wp2
  go_ret
  exact ⟨by rw [HT.out];rfl,HB2.out⟩
 ·have HN:=H_ hn
  clear hn
  go_wp2
  go_ret
  exact ⟨by rw [HN.out];rfl,HB1.out⟩
theorem ask_what (a b c d:Value) (l:List UInt8) (hq:NoQ l) (w:World) :
  Calls Tryz.prog 49 #[aggD a b c d,.string ⟨l.toArray⟩] w fun e w'=>e=.returned (.string ⟨whatT.toArray⟩)∧Below w.heap.size w w':=by
 have HB:=H_ (al_below w (.cells #[a,b,c,d] 31))
 obtain ⟨n1,n2,n3,n4,n5,n6,n7,n8,n9⟩:=hq
 have q1:=beq_false_of_ne n1
 have q2:=beq_false_of_ne n2
 have q3:=beq_false_of_ne n3
 have q4:=beq_false_of_ne n4
 have q5:=beq_false_of_ne n5
 have q6:=beq_false_of_ne n6
 have q7:=beq_false_of_ne n7
 have q8:=beq_false_of_ne n8
 have q9:=beq_false_of_ne n9
 clear n1 n2 n3 n4 n5 n6 n7 n8 n9
 go_enter Tryz.func49,Tryz.ntmps49
 go_wp2
 go_ret
 exact ⟨rfl,HB.out⟩
section
open Go.Maps
open Go.ChangeMaps (setBlock)
theorem keyOf_few (k:Int) (h1:-2≤k) (h2:k≤2):keyOf Tryz.prog 3 (.int .i64 k)=some (.int .i64 k):=
 keyOf_int_mk Tryz.underlying3 (WalkArith.wf_i64 ⟨by omega,by omega⟩)
abbrev enE (k:Int) (s:List UInt8) (n:Nat):MapEntry:={ key:=.int .i64 k,val:=.string ⟨s.toArray⟩,born:=n }
structure FewK (es:Array MapEntry):Prop where
 key:∀ e∈es.toList,∃ z:Int,e.key=.int .i64 z∧-2≤z∧z≤2
theorem eqm_put {w:World} {b:Nat} {es:Array MapEntry} {cl:Nat} (h1:w.heap[b]?=some (.map es cl)) (hk:FewK es) (k:Int) (k1:-2≤k) (k2:k≤2) (hn:∀ e∈es.toList,e.key≠.int .i64 k) (v:Value) :
  (Instr.mapUpdate 109 (.map (some b)) (.int .i64 k) v).run Tryz.prog w=.ok () (setBlock w b (.map (es.push { key:=.int .i64 k,val:=v,born:=cl }) (cl+1))):=by
 have hc:=keyI.check w false (keyOf_few k k1 k2)
 have hkeys:∀ e∈es.toList,∃ l,keyOf Tryz.prog 3 e.key=some l:=fun e he=>by
  obtain ⟨z,g1,g2,g3⟩:=hk.key e he
  exact ⟨_,by rw [g1];exact keyOf_few z g2 g3⟩
 rcases keyI.find w (keyOf_few k k1 k2) es.toList hkeys with ⟨f1,_⟩|⟨j,e,f1,f2,f3⟩
 ·simp [Instr.mapUpdate,run_underlying Tryz.underlying109,MapKept.run_getObj_map h1,hc,f1,MapKept.run_setObj_map _ h1,Result.andThen,setBlock]
 ·exact absurd f3 (hn e (List.mem_of_getElem? f2))
theorem eqm_look {w:World} {b:Nat} {es:Array MapEntry} {cl:Nat} (h1:w.heap[b]?=some (.map es cl)) (hk:FewK es) (k:Int) (k1:-2≤k) (k2:k≤2) (v:Value) (hv:∀ e∈es.toList,e.key=.int .i64 k→e.val=v) (hs:∃ e∈es.toList,e.key=.int .i64 k) :
  (Instr.lookup 109 (.map (some b)) (.int .i64 k) false).run Tryz.prog w=.ok v w:=by
 have hc:=keyI.check w es.isEmpty (keyOf_few k k1 k2)
 have hkeys:∀ e∈es.toList,∃ l,keyOf Tryz.prog 3 e.key=some l:=fun e he=>by
  obtain ⟨z,g1,g2,g3⟩:=hk.key e he
  exact ⟨_,by rw [g1];exact keyOf_few z g2 g3⟩
 rcases keyI.find w (keyOf_few k k1 k2) es.toList hkeys with ⟨f1,f2⟩|⟨j,e,f1,f2,f3⟩
 ·obtain ⟨e,he,hke⟩:=hs
  exact absurd hke (f2 e he)
 ·have e1:=hv e (List.mem_of_getElem? f2) f3
  simp [Instr.lookup,run_underlying Tryz.underlying109,MapKept.run_getObj_map h1,hc,f1,Result.andThen,e1]
theorem setB_get {w:World} {b:Nat} {o:Obj} (h:b<w.heap.size):(setBlock w b o).heap[b]?=some o:=by
 show (w.heap.setIfInBounds b _)[b]?=_
 rw [Array.getElem?_setIfInBounds,if_pos rfl,if_pos h]
theorem setB_below {B:Nat} {w0 w:World} {b:Nat} {o:Obj} (h:Below B w0 w) (hb:B≤b):Below B w0 (setBlock w b o):=
 ⟨h.os,h.tape,h.output,by simpa [setBlock] using h.size,fun i hi=>by
  show (w.heap.setIfInBounds b _)[i]?=_
  rw [Array.getElem?_setIfInBounds,if_neg (by omega)]
  exact h.block i hi⟩
def esQ:Array MapEntry:=#[enE 1 yesT 0,enE 0 noT 1,enE (-1) openT 2]
theorem esQ_few:FewK esQ:=⟨fun e he=>by
 simp only [esQ,List.mem_cons,List.not_mem_nil,or_false] at he
 rcases he with rfl|rfl|rfl
 ·exact ⟨1,rfl,by omega,by omega⟩
 ·exact ⟨0,rfl,by omega,by omega⟩
 ·exact ⟨-1,rfl,by omega,by omega⟩⟩
theorem eqm_made (w0:World):∃ w1 w2 w3:World,(Instr.mapUpdate 109 (.map (some w0.heap.size)) (.int .i64 1) (.string ⟨#[121,101,115]⟩)).run Tryz.prog (w0.alloc (.map #[] 0))=.ok () w1 ∧
  (Instr.mapUpdate 109 (.map (some w0.heap.size)) (.int .i64 0) (.string ⟨#[110,111]⟩)).run Tryz.prog w1=.ok () w2 ∧
  (Instr.mapUpdate 109 (.map (some w0.heap.size)) (.int .i64 (-1)) (.string ⟨#[111,112,101,110]⟩)).run Tryz.prog w2=.ok () w3∧Below w0.heap.size w0 w3∧Blk w0.heap.size (.map esQ 3) w3:=by
 have h0:(w0.alloc (.map #[] 0)).heap[w0.heap.size]?=some (.map #[] 0):=heap_alloc_new w0 _
 have hz:w0.heap.size<(w0.alloc (.map #[] 0)).heap.size:=by simp
 have h1:=setB_get (o:=.map (#[].push (enE 1 yesT 0)) 1) hz
 have hz1:w0.heap.size<(setBlock (w0.alloc (.map #[] 0)) w0.heap.size (.map (#[].push (enE 1 yesT 0)) 1)).heap.size:=by simp [setBlock]
 have h2:=setB_get (o:=.map ((#[].push (enE 1 yesT 0)).push (enE 0 noT 1)) 2) hz1
 refine ⟨_,_,_,eqm_put h0 ⟨fun e he=>by simp at he⟩ 1 (by omega) (by omega) (fun e he=>by simp at he) _,eqm_put h1 ⟨fun e he=>?_⟩ 0 (by omega) (by omega) (fun e he=>?_) _,eqm_put h2 ⟨fun e he=>?_⟩ (-1) (by omega) (by omega) (fun e he=>?_) _,?_,?_⟩
 ·simp at he;subst he;exact ⟨1,rfl,by omega,by omega⟩
 ·simp at he;subst he;simp
 ·simp at he
  rcases he with rfl|rfl
  ·exact ⟨1,rfl,by omega,by omega⟩
  ·exact ⟨0,rfl,by omega,by omega⟩
 ·simp at he
  rcases he with rfl|rfl<;>simp
 ·exact setB_below (setB_below (setB_below (al_below _ _) (le_ _)) (le_ _)) (le_ _)
 ·exact setB_get (by simp [setBlock])
theorem eqm_told {w:World} {b:Nat} (h:Blk b (.map esQ 3) w) (i:Int) (hi:i=1∨i=0∨i=-1):(Instr.lookup 109 (.map (some b)) (.int .i64 i) false).run Tryz.prog w=.ok (.string ⟨(eqT i).toArray⟩) w:=by
  rcases hi with rfl|rfl|rfl
  · exact eqm_look h esQ_few 1 (by omega) (by omega) _ (fun e he hk => by
      simp only [esQ,List.mem_cons,List.not_mem_nil,or_false] at he
      rcases he with rfl|rfl|rfl
      · rfl
      · simp at hk
      · simp at hk) ⟨enE 1 yesT 0,by simp [esQ],rfl⟩
  · exact eqm_look h esQ_few 0 (by omega) (by omega) _ (fun e he hk => by
      simp only [esQ,List.mem_cons,List.not_mem_nil,or_false] at he
      rcases he with rfl|rfl|rfl
      · simp at hk
      · rfl
      · simp at hk) ⟨enE 0 noT 1,by simp [esQ],rfl⟩
  · exact eqm_look h esQ_few (-1) (by omega) (by omega) _ (fun e he hk => by
      simp only [esQ,List.mem_cons,List.not_mem_nil,or_false] at he
      rcases he with rfl|rfl|rfl
      · simp at hk
      · simp at hk
      · rfl) ⟨enE (-1) openT 2,by simp [esQ],rfl⟩
theorem ask_equal (lo hi:Nat) (a b c d:Value) (D:Dsk) (w:World) (hx:DeskAt lo hi w a b c d D) (hh:hi≤w.heap.size) (hm:D.size≤1048576) :
  Calls Tryz.prog 49 #[aggD a b c d,.string ⟨#[101,113,117,97,108]⟩] w fun e w'=>e=.returned (.string ⟨(eqT (equalV D.now D.goal)).toArray⟩)∧Below w.heap.size w w':=by
 obtain ⟨w0,hw0⟩:∃ w0,w0=w.alloc (.cells #[a,b,c,d] 31):=⟨_,rfl⟩
 obtain ⟨hb0,K_,hs0⟩:=box_facts2 hw0
 obtain ⟨w1,w2,w3,r1,r2,r3,hb3,hk3⟩:=eqm_made w0
 have hz3:=hb3.size
 have HX:=H_ ((hx.below hb0 hh).below hb3 (by omega))
 have HB:=H_ (hb0.trans (hb3.mono (by omega)))
 have HK3:=H_ hk3
 have HER:=H_ (equal_range D.now D.goal)
 have K:=K_.below hb3 (by omega)
 have k1:=K.cell 1
 have k3:=K.cell 3
 have hmk:(Instr.makeMap 109 none).run Tryz.prog w0=.ok (.map (some w0.heap.size)) (w0.alloc (.map #[] 0)):=rfl
 unfold Dsk.size at hm
 clear hx hb0 hb3 K_ K hk3
 go_enter Tryz.func49,Tryz.ntmps49
 go_upto_region 15 with fail
 simp only [←hw0]
 clear hw0
 go_wp2_with fail
 clear r1 r2 r3 hmk
 refine (equalX_any _ _ _ _ _ _ D.now D.goal w3 HX.out.now HX.out.goal (by omega) (by omega) (by omega) (by omega)).mono ?_
 rintro e1 w4 ⟨rfl,hb4⟩
 have HB4:=H_ (HB.out.trans (hb4.mono (by omega)))
 have hl:=eqm_told (HK3.out.below hb4 HK3.out.lt) (equalV D.now D.goal) HER.out
 obtain ⟨i,hi⟩:∃ i,i=equalV D.now D.goal:=⟨_,rfl⟩
 rw [←hi] at hl ⊢
 have HI:=H_ hi
 clear hb4 k1 k3 hi
 go_wp2
 go_ret
 exact ⟨by rw [←HI.out];rfl,HB4.out⟩
end
theorem prfT_join (ms:List Mv) (h:ms≠[]):joinC (ms.map mvText)=prfT ms:=by
 cases ms with
 | nil=>exact absurd rfl h
 | cons m r=>simp [joinC,prfT,List.foldl_map]
theorem ask_proof (lo hi:Nat) (a b c d:Value) (D:Dsk) (w:World) (hx:DeskAt lo hi w a b c d D) (hh:hi≤w.heap.size) (hv:deskV D=true) :
  Calls Tryz.prog 49 #[aggD a b c d,.string ⟨#[112,114,111,111,102]⟩] w fun e w'=>e=.returned (.string ⟨(prfT D.made).toArray⟩)∧Below w.heap.size w w':=by
 have hmade:=(deskV_parts hv).2.2.2.1
 obtain ⟨w0,hw0⟩:∃ w0,w0=w.alloc (.cells #[a,b,c,d] 31):=⟨_,rfl⟩
 obtain ⟨hb0,K_,hs0⟩:=box_facts2 hw0
 have HX:=H_ (hx.below hb0 hh).made
 have HB:=H_ hb0
 have k2:=K_.cell 2
 obtain ⟨za,zc,rfl,_,_⟩:=SlM.shape HX.out
 obtain ⟨ms,hms⟩:∃ ms,ms=D.made:=⟨_,rfl⟩
 rw [←hms] at HX hmade k2 hw0 ⊢
 have HM0:Hid (Own 1 w0.heap.size w0.heap.size 9 w0 (.slice none 0 0) 0 (strs ((ms.take 0).map mvText))∧Below w0.heap.size w0 w0):=H_ ⟨Own.nil _ _ _ _ _,B_ _ _⟩
 clear hx hb0 K_ hv hms
 go_enter Tryz.func49,Tryz.ntmps49
 go_upto_region 22 with fail
 simp only [←hw0]
 clear hw0
 go_wp2
 go_loopw [7,64] (fun v i wr=>∃ k:Nat,k≤ms.length∧i=.int .i64 k∧Hid (Own 1 w0.heap.size wr.heap.size 9 wr v k (strs ((ms.take k).map mvText))∧Below w0.heap.size w0 wr)) (fun _ i _=>ms.length-(intOf i).toNat)
 case atStart=>exact ⟨0,by omega,rfl,HM0⟩
 case round=>
  rename World=>wr
  clear HM0
  obtain ⟨k,hk,rfl,HQ⟩:=hrel
  have hwr:=HQ.out.2.size
  obtain ⟨qa,qc,hqv⟩:=Own.shape HQ.out.1
  subst hqv
  by_cases hlt:k<ms.length
  ·obtain ⟨b1,off,rfl,_,_,hb1,q0,q1,q2⟩:=(HX.out.below HQ.out.2 (by omega)).get k hlt
   have HTK:=H_ (show (ms.take (k+1)).map mvText=(ms.take k).map mvText++[mvText ms[k]] from by rw [List.take_succ_eq_append_getElem hlt,List.map_append];rfl)
   obtain ⟨m,hm⟩:∃ m,m=ms[k]:=⟨_,rfl⟩
   rw [←hm] at q0 q1 q2 HTK
   clear hm
   go_wp2_with fail
   obtain ⟨w1,hw1⟩:∃ x_,x_=wr.alloc (.cells #[.int .i64 m.which,.bool m.back,.int .i64 m.at_] 67):=⟨_,rfl⟩
   have hb1:Below wr.heap.size wr w1:=by rw [hw1];exact al_below _ _
   have hz1:=hb1.size
   have HB1:=H_ hb1
   simp only [←hw1]
   clear hw1 hb1 q0 q1 q2
   refine (impl_MoveText m w1).mono ?_
   rintro e2 w2 ⟨rfl,hb2⟩
   have hz2:=hb2.size
   have HB2:=H_ (HB1.out.trans (hb2.mono hz1))
   have HO2:=H_ ((HQ.out.1.below HB2.out (le_ _)).wide2 (le_ _) (show wr.heap.size≤w2.heap.size by omega))
   have HQ2:=H_ (HQ.out.2.trans (HB2.out.mono hwr))
   clear hb2 HQ HB1
   go_wp2_with (at_builtin;go_loud (refine wpList_app_lit_at w2 rfl _ _ 26 rfl 9 (.string ⟨#[]⟩) 1 16 Tryz.underlying26 info_str rfl (by decide) (by decide) rfl HO2.out 1 [.string ⟨(mvText m).toArray⟩] rfl rfl (by intro u hu;simp only [List.mem_singleton] at hu;subst hu;rfl) rfl (by omega) (by omega) ?_))
   intro v3 w3 ho3 hg3 _ _
   have hz3:=hg3.size
   have hz3_:(w2.alloc (.cells #[.string ⟨(mvText m).toArray⟩] 9)).heap.size=w2.heap.size+1:=alloc_size _ _
   have ha3:=al_below w2 (.cells #[.string ⟨(mvText m).toArray⟩] 9)
   have HN:=H_ (show Own 1 w0.heap.size w3.heap.size 9 w3 v3 (k+1) (strs ((ms.take (k+1)).map mvText))∧Below w0.heap.size w0 w3 from ⟨by
    rw [HTK.out,strs_append,List.map_take]
    exact ho3,Below.outside (HQ2.out.trans (ha3.mono (by omega))) (grown_outside hg3 (HO2.out.alloc (.cells #[.string ⟨(mvText m).toArray⟩] 9)).lt) (le_ _) (by omega)⟩)
   obtain ⟨y3,yc3,rfl⟩:=Own.shape ho3
   clear ho3 hg3 ha3 HO2 HQ2
   go_wp2
   go_roundw
   case rel=>exact ⟨k+1,by omega,by go_num,HN⟩
   case measure=>first | (simp [intOf];done) | (simp [intOf];omega)
  ·obtain rfl:k=ms.length:=by omega
   by_cases h0:ms=[]
   ·have hl0:ms.length≤0:=by simp [h0]
    have HR:=H_ (show prfT ms=noneT by rw [h0];rfl)
    have g9:((ms.length:Int)==0)=true:=by simp [h0]
    clear h0
    go_wp2
    go_ret
    exact ⟨by rw [HR.out];rfl,HB.out.trans (HQ.out.2.mono (by omega))⟩
   ·have hl0:0<ms.length:=by cases ms with | nil=>exact absurd rfl h0 | cons=>simp
    have HR:=H_ (prfT_join ms h0)
    have g9:((ms.length:Int)==0)=false:=by simp [h0]
    have HNE:=H_ (show ms.map mvText≠[] from fun h=>h0 (List.map_eq_nil_iff.1 h))
    have HSL:=H_ (show SlT w0.heap.size wr.heap.size wr (.slice qa ms.length qc) (ms.map mvText) from by
     have h:=HQ.out.1.sl
     rw [List.take_length] at h
     show Sl 1 _ _ _ _ (ms.map mvText).length _
     rw [List.length_map]
     exact h)
    clear h0
    go_wp2_with fail
    refine (Join_any _ _ _ _ _ (ms.map mvText) wr HSL.out HNE.out (by rw [List.length_map];omega) (fun x hx=>by
     obtain ⟨m,_,rfl⟩:=List.mem_map.1 hx
     have:=mvText_len m
     omega)).mono ?_
    rintro e2 w2 ⟨rfl,hb2⟩
    have HB2:=H_ (HB.out.trans ((HQ.out.2.trans (hb2.mono hwr)).mono (by omega)))
    clear hb2
    go_wp2
    go_ret
    exact ⟨by rw [HR.out];rfl,HB2.out⟩
theorem askV_now (D:Dsk):askV D [110,111,119]=katTxt D.now:=by unfold askV;rw [if_pos rfl]
theorem askV_first (D:Dsk):askV D [102,105,114,115,116]=katTxt D.first:=by unfold askV;rw [if_neg (by decide),if_pos rfl]
theorem askV_goal (D:Dsk):askV D [103,111,97,108]=katTxt D.goal:=by unfold askV;rw [if_neg (by decide),if_neg (by decide),if_pos rfl]
theorem askV_moves (D:Dsk):askV D [109,111,118,101,115]=dig2 D.made.length:=by unfold askV;rw [if_neg (by decide),if_neg (by decide),if_neg (by decide),if_pos rfl]
theorem askV_done (D:Dsk):askV D [100,111,110,101]=if eqL D.now D.goal then yesT else noT:=by unfold askV;rw [if_neg (by decide),if_neg (by decide),if_neg (by decide),if_neg (by decide),if_pos rfl]
theorem askV_equal (D:Dsk):askV D [101,113,117,97,108]=eqT (equalV D.now D.goal):=by unfold askV;rw [if_neg (by decide),if_neg (by decide),if_neg (by decide),if_neg (by decide),if_neg (by decide),if_pos rfl]
theorem askV_ends (D:Dsk):askV D [101,110,100,115]=testT (endsK (treeOf D.now)):=by unfold askV;rw [if_neg (by decide),if_neg (by decide),if_neg (by decide),if_neg (by decide),if_neg (by decide),if_neg (by decide),if_pos rfl]
theorem askV_trace (D:Dsk):askV D [116,114,97,99,101]=difT (differV D.now D.goal):=by unfold askV;rw [if_neg (by decide),if_neg (by decide),if_neg (by decide),if_neg (by decide),if_neg (by decide),if_neg (by decide),if_neg (by decide),if_pos rfl]
theorem askV_proof (D:Dsk):askV D [112,114,111,111,102]=prfT D.made:=by unfold askV;rw [if_neg (by decide),if_neg (by decide),if_neg (by decide),if_neg (by decide),if_neg (by decide),if_neg (by decide),if_neg (by decide),if_neg (by decide),if_pos rfl]
theorem ask_any (lo hi:Nat) (a b c d:Value) (D:Dsk) (l:List UInt8) (w:World) (hE:EnvK w) (hx:DeskAt lo hi w a b c d D) (hh:hi≤w.heap.size) (hm:D.size≤1048576) (hv:deskV D=true) :
  Calls Tryz.prog 49 #[aggD a b c d,.string ⟨l.toArray⟩] w fun e w'=>e=.returned (.string ⟨(askV D l).toArray⟩)∧Below w.heap.size w w':=by
 rcases quest l with rfl|rfl|rfl|rfl|rfl|rfl|rfl|rfl|rfl|hq
 ·rw [askV_now];exact ask_now lo hi a b c d D w hE hx hh hm hv
 ·rw [askV_first];exact ask_first lo hi a b c d D w hE hx hh hm hv
 ·rw [askV_goal];exact ask_goal lo hi a b c d D w hE hx hh hm hv
 ·rw [askV_moves];exact ask_moves lo hi a b c d D w hE hx hh hm hv
 ·rw [askV_done];exact ask_done lo hi a b c d D w hE hx hh hm hv
 ·rw [askV_equal];exact ask_equal lo hi a b c d D w hx hh hm
 ·rw [askV_ends];exact ask_ends lo hi a b c d D w hE hx hh hm hv
 ·rw [askV_trace];exact ask_trace lo hi a b c d D w hE hx hh hm hv
 ·rw [askV_proof];exact ask_proof lo hi a b c d D w hx hh hv
 ·rw [askV_what hq];exact ask_what a b c d l hq w
end Go.Proofs.YtfnnhimopokpnaaGreatDoor
