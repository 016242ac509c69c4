/- Lemmas for this seat; no condition. -/
import Derived.Test.YtfnnhimopokpnaaGreatDoorHAAN
namespace Go.Proofs.YtfnnhimopokpnaaGreatDoor
open Go.RowKit
set_option maxRecDepth 100000
set_option maxHeartbeats 0
set_option linter.unusedVariables false
def Nope (l:List UInt8) (R A B:Nat):Prop:=∀ m:Mv,mvOk m=true→(m.which<R∨(m.which=R∧(m.at_<A∨(m.at_=A∧(if m.back then 1 else 0)<B))))→mvText m≠l
theorem Nope.zero (l:List UInt8):Nope l 0 0 0:=by
 intro m h hlt
 simp [mvOk] at h
 omega
theorem Nope.step {l:List UInt8} {R A B:Nat} (h:Nope l R A B) (hne:mvText ⟨R,(B:Int)==1,A⟩≠l) (hB:B<2):Nope l R A (B+1):=by
 intro m hm hlt
 by_cases h1:m.which<R∨(m.which=R∧(m.at_<A∨(m.at_=A∧(if m.back then 1 else 0)<B)))
 ·exact h m hm h1
 ·have e:m=⟨R,(B:Int)==1,A⟩:=by
   obtain ⟨p,b,q⟩:=m
   simp only at h1 hlt
   have e1:p=R:=by omega
   have e2:q=A:=by omega
   have e3:(if b=true then 1 else 0)=B:=by omega
   subst e1 e2
   congr 1
   subst e3
   cases b<;>rfl
  rw [e];exact hne
theorem Nope.next {l:List UInt8} {R A:Nat} (h:Nope l R A 2):Nope l R (A+1) 0:=by
 intro m hm hlt
 refine h m hm ?_
 have:(if m.back=true then 1 else 0)<2:=by split<;>omega
 omega
theorem Nope.next2 {l:List UInt8} {R:Nat} (h:Nope l R 40 0):Nope l (R+1) 0 0:=by
 intro m hm hlt
 refine h m hm ?_
 simp [mvOk] at hm
 omega
theorem Nope.all {l:List UInt8} (h:Nope l 21 0 0):readMv l=none:=
 readMv_none fun m hm=>h m hm (by simp [mvOk] at hm;omega)
theorem rd_long {l:List UInt8} (h:6<l.length):readMv l=none:=
 readMv_none fun m hm e=>by have:=mvText_len m;rw [e] at this;omega
theorem spec_ReadMove (l:List UInt8) (s:ByteArray) (hs:s=⟨l.toArray⟩) (w:World) (hl:l.length≤2097152) :
  Calls Tryz.prog 98 #[.string s] w fun e w'=>e=.returned (rdMv (readMv l))∧Below w.heap.size w w':=by
 subst hs
 have hb0:Hid (∀ o,Below w.heap.size w (w.alloc o)):=H_ fun o=>(B_ _ _).alloc (le_ _) _
 by_cases h6:6<l.length
 ·go_enter Tryz.func98,Tryz.ntmps98
  go_wp2
  rw [rd_long h6]
  refine bodyPost_ret (v:=rdMv none) (by simp [results,Tryz.results98,go_sem,rdMv,zeroMv]) rfl ⟨rfl,hb0.out _⟩
 ·have K0:Hid (∀ o,Blk w.heap.size o (w.alloc o)):=H_ fun o=>Blk.new w o
  have h6':l.length≤6:=by omega
  clear h6
  go_enter Tryz.func98,Tryz.ntmps98
  go_wp2
  go_loopw [4] (fun i wr=>∃ R:Nat,R≤21∧i=.int .i64 R∧Hid (Nope l R 0 0)∧Hid (Blk w.heap.size (.cells #[.int .i64 0,.bool false,.int .i64 0] 67) wr)∧Hid (Below w.heap.size w wr)) (fun i _=>21-(intOf i).toNat)
  case atStart=>exact ⟨0,by omega,rfl,H_ (Nope.zero l),H_ (K0.out _),H_ (hb0.out _)⟩
  case round=>
   obtain ⟨R,hR,rfl,HN,K,HB⟩:=hrel
   by_cases hltR:R<21
   ·go_wp2
    simp only [show decide ((R:Int)<21)=true from decide_eq_true (by omega)]
    go_loopw [5] (fun i wr=>∃ A:Nat,A≤40∧i=.int .i64 A∧Hid (Nope l R A 0)∧Hid (Blk w.heap.size (.cells #[.int .i64 0,.bool false,.int .i64 0] 67) wr)∧Hid (Below w.heap.size w wr)) (fun i _=>40-(intOf i).toNat)
    case atStart=>exact ⟨0,by omega,rfl,HN,K,HB⟩
    case round=>
     clear HN K HB
     obtain ⟨A,hA,rfl,HN,K,HB⟩:=hrel
     by_cases hltA:A<40
     ·go_wp2
      simp only [show decide ((A:Int)<40)=true from decide_eq_true (by omega)]
      go_loopw [6] (fun i wr=>∃ B:Nat,B≤2∧i=.int .i64 B∧Hid (Nope l R A B)∧Hid (Blk w.heap.size (.cells #[.int .i64 0,.bool false,.int .i64 0] 67) wr)∧Hid (Below w.heap.size w wr)) (fun i _=>2-(intOf i).toNat)
      case atStart=>exact ⟨0,by omega,rfl,HN,K,HB⟩
      case round=>
       clear HN K HB
       obtain ⟨B,hB,rfl,HN,K,HB⟩:=hrel
       by_cases hltB:B<2
       ·go_wp2_with fail
        obtain ⟨bk,hbk⟩:∃ bk,bk=((B:Int)==1):=⟨_,rfl⟩
        rw [←hbk]
        obtain ⟨w4,hw4⟩:∃ w4,w4=wr.alloc (.cells #[.int .i64 R,.bool bk,.int .i64 A] 67):=⟨_,rfl⟩
        rw [←hw4]
        have hb:Below wr.heap.size wr w4:=by rw [hw4];exact (B_ _ _).alloc (le_ _) _
        have K4:Hid (Blk wr.heap.size (.cells #[.int .i64 R,.bool bk,.int .i64 A] 67) w4):=by rw [hw4];exact H_ (Blk.new _ _)
        replace K:=H_ (K.out.below hb K.out.lt)
        have hsz3:=HB.out.size
        replace HB:=H_ (HB.out.trans (hb.mono HB.out.size))
        have HBK:=H_ hbk
        clear hb hw4 hbk
        refine (spec_MoveText ⟨R,bk,A⟩ _).mono ?_
        rintro e w5 ⟨rfl,hb⟩
        replace K:=H_ (K.out.below hb K.out.lt)
        replace K4:=H_ (K4.out.below hb K4.out.lt)
        replace HB:=H_ (HB.out.trans (hb.mono HB.out.size))
        clear hb
        have d0:=K4.out.cell 0
        have d1:=K4.out.cell 1
        have d2:=K4.out.cell 2
        cases hq:(mvText ⟨R,bk,A⟩==l)
        ·go_wp2
         go_roundw
         case rel=>exact ⟨B+1,by omega,by go_num,H_ (HN.out.step (by rw [←HBK.out];simpa using hq) hltB),K,HB⟩
         case measure=>simp [intOf];omega
        ·have HR:=H_ ((readMv_iff l ⟨R,bk,A⟩).2 ⟨by simp [mvOk];omega,by simpa using hq⟩)
         obtain ⟨wz,hwz⟩:∃ wz,wz=(((w5.setCell ⟨w.heap.size,0,none⟩ (.int .i64 R)).setCell ⟨w.heap.size,1,none⟩ (.bool bk)).setCell ⟨w.heap.size,2,none⟩ (.int .i64 A)):=⟨_,rfl⟩
         have KZ:=K.out.set3 (.int .i64 R) (.bool bk) (.int .i64 A)
         have HZ:=H_ (Below.set3 HB.out (le_ _) (.int .i64 R) (.bool bk) (.int .i64 A))
         rw [←hwz] at KZ HZ
         have q0:=KZ.cell 0
         have q1:=KZ.cell 1
         have q2:=KZ.cell 2
         clear KZ
         have c0:=K.out.cell 0
         have c1:=K.out.cell 1
         have c2:=K.out.cell 2
         have f0:=K.out.free 0
         have f1:=K.out.free 1
         have f2:=K.out.free 2
         go_wp2
         simp only [←hwz]
         clear hwz
         rw [HR.out]
         refine bodyPost_ret (v:=rdMv (some ⟨R,bk,A⟩)) (by simp [results,Tryz.results98,go_sem,q0,q1,q2,rdMv,zeroMv]) rfl ⟨rfl,HZ.out⟩
       ·obtain rfl:B=2:=by omega
        go_wp2
        go_roundw
        case rel=>exact ⟨A+1,by omega,by go_num,H_ HN.out.next,K,HB⟩
        case measure=>simp [intOf];omega
     ·obtain rfl:A=40:=by omega
      go_wp2
      go_roundw
      case rel=>exact ⟨R+1,by omega,by go_num,H_ HN.out.next2,K,HB⟩
      case measure=>simp [intOf];omega
   ·obtain rfl:R=21:=by omega
    obtain ⟨wz,hwz⟩:∃ wz,wz=(((wr.setCell ⟨w.heap.size,0,none⟩ (.int .i64 0)).setCell ⟨w.heap.size,1,none⟩ (.bool false)).setCell ⟨w.heap.size,2,none⟩ (.int .i64 0)):=⟨_,rfl⟩
    have KZ:=K.out.set3 (.int .i64 0) (.bool false) (.int .i64 0)
    have HZ:=H_ (Below.set3 HB.out (le_ _) (.int .i64 0) (.bool false) (.int .i64 0))
    rw [←hwz] at KZ HZ
    have q0:=KZ.cell 0
    have q1:=KZ.cell 1
    have q2:=KZ.cell 2
    clear KZ
    have c0:=K.out.cell 0
    have c1:=K.out.cell 1
    have c2:=K.out.cell 2
    have f0:=K.out.free 0
    have f1:=K.out.free 1
    have f2:=K.out.free 2
    go_wp2
    simp only [←hwz]
    clear hwz
    rw [Nope.all HN.out]
    refine bodyPost_ret (v:=rdMv none) (by simp [results,Tryz.results98,go_sem,q0,q1,q2,rdMv,zeroMv]) rfl ⟨rfl,HZ.out⟩
theorem CutPrefix_any (l p:List UInt8) (s sep:ByteArray) (hs:s=⟨l.toArray⟩) (hp:sep=⟨p.toArray⟩) (w:World) :
  Calls Tryz.prog 84 #[.string s,.string sep] w fun e w'=>e=.returned (.tuple #[.string ⟨(Lib.trimPrefix l p).toArray⟩,.bool (Lib.hasPrefix l p)])∧w=w':=by
 subst hs hp
 exact (Tryz.strings_CutPrefix ⟨l.toArray⟩ ⟨p.toArray⟩ w).mono fun e w' h=>⟨h.1,h.2.symm⟩
theorem impl_ReadAct (l:List UInt8) (s:ByteArray) (hs:s=⟨l.toArray⟩) (w:World) (hE:Env w) (hl:l.length≤2097152) :
  Calls Tryz.prog 48 #[.string s] w fun e w'=>e=.returned (rdAc (readAc l))∧Below w.heap.size w w':=by
 subst hs
 obtain ⟨w0,hw0⟩:∃ w0,w0=w.alloc (.cells #[.int .i64 0,.int .i64 0,.bool false,.int .i64 0,.int .i64 0] 69):=⟨_,rfl⟩
 have HB:Hid (Below w.heap.size w w0):=by rw [hw0];exact H_ ((B_ _ _).alloc (le_ _) _)
 have K:Hid (Blk w.heap.size (.cells #[.int .i64 0,.int .i64 0,.bool false,.int .i64 0,.int .i64 0] 69) w0):=by rw [hw0];exact H_ (Blk.new w _)
 have HE:=H_ (hE.below HB.out)
 clear hE
 go_enter Tryz.func48,Tryz.ntmps48
 go_wp2_with fail
 simp only [←hw0]
 clear hw0
 refine (impl_ReadMove l _ rfl _ HE.out hl).mono ?_
 rintro e w1 ⟨rfl,hb⟩
 replace HE:=H_ (HE.out.below hb)
 replace K:=H_ (K.out.below hb K.out.lt)
 replace HB:=H_ (HB.out.trans (hb.mono HB.out.size))
 clear hb
 cases hr:readMv l with
 | some m=>
  rw [rdMv_some]
  have HR:=H_ (ra_move hr)
  clear hr HE
  obtain ⟨w2,hw2⟩:∃ w2,w2=w1.alloc (.cells #[.int .i64 m.which,.bool m.back,.int .i64 m.at_] 67):=⟨_,rfl⟩
  have hb:Below w1.heap.size w1 w2:=by rw [hw2];exact (B_ _ _).alloc (le_ _) _
  replace K:Hid (Blk w.heap.size (.cells #[.int .i64 0,.int .i64 0,.bool false,.int .i64 0,.int .i64 0] 69) (w1.alloc (.cells #[.int .i64 m.which,.bool m.back,.int .i64 m.at_] 67))):=by rw [←hw2];exact H_ (K.out.below hb K.out.lt)
  replace HB:Hid (Below w.heap.size w (w1.alloc (.cells #[.int .i64 m.which,.bool m.back,.int .i64 m.at_] 67))):=by rw [←hw2];exact H_ (HB.out.trans (hb.mono HB.out.size))
  clear hb hw2
  obtain ⟨wz,hwz⟩:∃ wz,wz=((((((w1.alloc (.cells #[.int .i64 m.which,.bool m.back,.int .i64 m.at_] 67)).setCell ⟨w.heap.size,0,none⟩ (.int .i64 0)).setCell ⟨w.heap.size,1,none⟩ (.int .i64 m.which)).setCell ⟨w.heap.size,2,none⟩ (.bool m.back)).setCell ⟨w.heap.size,3,none⟩ (.int .i64 m.at_)).setCell ⟨w.heap.size,4,none⟩ (.int .i64 0)):=⟨_,rfl⟩
  have KZ:=K.out.set5 (.int .i64 0) (.int .i64 m.which) (.bool m.back) (.int .i64 m.at_) (.int .i64 0)
  have HZ:=H_ (Below.set5 HB.out (le_ _) (.int .i64 0) (.int .i64 m.which) (.bool m.back) (.int .i64 m.at_) (.int .i64 0))
  rw [←hwz] at KZ HZ
  have q0:=KZ.cell 0
  have q1:=KZ.cell 1
  have q2:=KZ.cell 2
  have q3:=KZ.cell 3
  have q4:=KZ.cell 4
  clear KZ
  have c0:=K.out.cell 0
  have f0:=K.out.free 0
  have c1:=K.out.cell 1
  have f1:=K.out.free 1
  have c2:=K.out.cell 2
  have f2:=K.out.free 2
  have c3:=K.out.cell 3
  have f3:=K.out.free 3
  have c4:=K.out.cell 4
  have f4:=K.out.free 4
  go_wp2
  simp only [←hwz]
  clear hwz
  rw [HR.out]
  refine bodyPost_ret (v:=rdAc (some ⟨0,m,0⟩)) (by simp [results,Tryz.results48,go_sem,q0,q1,q2,q3,q4,rdAc]) rfl ⟨rfl,HZ.out⟩
 | none=>
  rw [rdMv_none]
  have HR1:=H_ hr
  clear hr
  cases hsm:l==simpleT with
  | true=>
   have HR:=H_ (ra_simple (l:=l) (by simpa using hsm))
   have hsm':(l==[115,105,109,112,108,101])=true:=hsm
   clear hsm HE
   have hb:Below w1.heap.size w1 (w1.alloc (.cells #[.int .i64 0,.bool false,.int .i64 0] 67)):=(B_ _ _).alloc (le_ _) _
   replace K:=H_ (K.out.below hb K.out.lt)
   replace HB:=H_ (HB.out.trans (hb.mono HB.out.size))
   clear hb
   obtain ⟨wz,hwz⟩:∃ wz,wz=((((((w1.alloc (.cells #[.int .i64 0,.bool false,.int .i64 0] 67)).setCell ⟨w.heap.size,0,none⟩ (.int .i64 2)).setCell ⟨w.heap.size,1,none⟩ (.int .i64 0)).setCell ⟨w.heap.size,2,none⟩ (.bool false)).setCell ⟨w.heap.size,3,none⟩ (.int .i64 0)).setCell ⟨w.heap.size,4,none⟩ (.int .i64 0)):=⟨_,rfl⟩
   have KZ:=K.out.set5 (.int .i64 2) (.int .i64 0) (.bool false) (.int .i64 0) (.int .i64 0)
   have HZ:=H_ (Below.set5 HB.out (le_ _) (.int .i64 2) (.int .i64 0) (.bool false) (.int .i64 0) (.int .i64 0))
   rw [←hwz] at KZ HZ
   have q0:=KZ.cell 0
   have q1:=KZ.cell 1
   have q2:=KZ.cell 2
   have q3:=KZ.cell 3
   have q4:=KZ.cell 4
   clear KZ
   have c0:=K.out.cell 0
   have f0:=K.out.free 0
   have c1:=K.out.cell 1
   have f1:=K.out.free 1
   have c2:=K.out.cell 2
   have f2:=K.out.free 2
   have c3:=K.out.cell 3
   have f3:=K.out.free 3
   have c4:=K.out.cell 4
   have f4:=K.out.free 4
   go_wp2
   simp only [←hwz]
   clear hwz
   rw [HR.out]
   refine bodyPost_ret (v:=rdAc (some ⟨2,zeroMv,0⟩)) (by simp [results,Tryz.results48,go_sem,q0,q1,q2,q3,q4,rdAc,zeroMv]) rfl ⟨rfl,HZ.out⟩
  | false=>
   have HSM:=H_ hsm
   have hsm':(l==[115,105,109,112,108,101])=false:=hsm
   clear hsm
   go_wp2_with fail
   obtain ⟨w2,hw2⟩:∃ w2,w2=w1.alloc (.cells #[.int .i64 0,.bool false,.int .i64 0] 67):=⟨_,rfl⟩
   rw [←hw2]
   have hb:Below w1.heap.size w1 w2:=by rw [hw2];exact (B_ _ _).alloc (le_ _) _
   replace HE:=H_ (HE.out.below hb)
   replace K:=H_ (K.out.below hb K.out.lt)
   replace HB:=H_ (HB.out.trans (hb.mono HB.out.size))
   clear hb hw2
   refine (CutPrefix_any l backT _ _ rfl rfl _).mono ?_
   rintro e w' ⟨rfl,rfl⟩
   cases hp:Lib.hasPrefix l backT with
   | false=>
    have HR:=H_ (ra_none HR1.out HSM.out (db_no1 hp))
    clear hp
    obtain ⟨wz,hwz⟩:∃ wz,wz=(((((w2.setCell ⟨w.heap.size,0,none⟩ (.int .i64 0)).setCell ⟨w.heap.size,1,none⟩ (.int .i64 0)).setCell ⟨w.heap.size,2,none⟩ (.bool false)).setCell ⟨w.heap.size,3,none⟩ (.int .i64 0)).setCell ⟨w.heap.size,4,none⟩ (.int .i64 0)):=⟨_,rfl⟩
    have KZ:=K.out.set5 (.int .i64 0) (.int .i64 0) (.bool false) (.int .i64 0) (.int .i64 0)
    have HZ:=H_ (Below.set5 HB.out (le_ _) (.int .i64 0) (.int .i64 0) (.bool false) (.int .i64 0) (.int .i64 0))
    rw [←hwz] at KZ HZ
    have q0:=KZ.cell 0
    have q1:=KZ.cell 1
    have q2:=KZ.cell 2
    have q3:=KZ.cell 3
    have q4:=KZ.cell 4
    clear KZ
    have c0:=K.out.cell 0
    have f0:=K.out.free 0
    have c1:=K.out.cell 1
    have f1:=K.out.free 1
    have c2:=K.out.cell 2
    have f2:=K.out.free 2
    have c3:=K.out.cell 3
    have f3:=K.out.free 3
    have c4:=K.out.cell 4
    have f4:=K.out.free 4
    go_wp2
    simp only [←hwz]
    clear hwz
    rw [HR.out]
    refine bodyPost_ret (v:=rdAc none) (by simp [results,Tryz.results48,go_sem,q0,q1,q2,q3,q4,rdAc_none]) rfl ⟨rfl,HZ.out⟩
   | true=>
    have HNE:Hid (l≠[]):=H_ (by intro h;rw [h] at hp;cases hp)
    have hpl:(Lib.trimPrefix l backT).length≤l.length:=by unfold Lib.trimPrefix;rw [if_pos hp];simp
    obtain ⟨p,hp1⟩:∃ p,p=Lib.trimPrefix l backT:=⟨_,rfl⟩
    rw [←hp1] at hpl ⊢
    have HP:=H_ hp1
    clear hp1 hp
    cases ha:atoiV p with
    | none=>
     have HR:=H_ (ra_none HR1.out HSM.out (db_no2 (by rw [←HP.out];exact ha)))
     go_wp2_with fail
     refine (Atoi_bad p _ rfl _ HE.out (by omega) ha).mono ?_
     rintro e w3 ⟨n,t,q,rfl,hb⟩
     replace K:=H_ (K.out.below hb K.out.lt)
     replace HB:=H_ (HB.out.trans (hb.mono HB.out.size))
     clear hb ha HE
     have hb:Below w3.heap.size w3 (w3.alloc (.cells #[.int .i64 1,.int .i64 0,.bool false,.int .i64 0,.int .i64 n] 69)):=(B_ _ _).alloc (le_ _) _
     replace K:=H_ (K.out.below hb K.out.lt)
     replace HB:=H_ (HB.out.trans (hb.mono HB.out.size))
     clear hb
     obtain ⟨wz,hwz⟩:∃ wz,wz=((((((w3.alloc (.cells #[.int .i64 1,.int .i64 0,.bool false,.int .i64 0,.int .i64 n] 69)).setCell ⟨w.heap.size,0,none⟩ (.int .i64 0)).setCell ⟨w.heap.size,1,none⟩ (.int .i64 0)).setCell ⟨w.heap.size,2,none⟩ (.bool false)).setCell ⟨w.heap.size,3,none⟩ (.int .i64 0)).setCell ⟨w.heap.size,4,none⟩ (.int .i64 0)):=⟨_,rfl⟩
     have KZ:=K.out.set5 (.int .i64 0) (.int .i64 0) (.bool false) (.int .i64 0) (.int .i64 0)
     have HZ:=H_ (Below.set5 HB.out (le_ _) (.int .i64 0) (.int .i64 0) (.bool false) (.int .i64 0) (.int .i64 0))
     rw [←hwz] at KZ HZ
     have q0:=KZ.cell 0
     have q1:=KZ.cell 1
     have q2:=KZ.cell 2
     have q3:=KZ.cell 3
     have q4:=KZ.cell 4
     clear KZ
     have c0:=K.out.cell 0
     have f0:=K.out.free 0
     have c1:=K.out.cell 1
     have f1:=K.out.free 1
     have c2:=K.out.cell 2
     have f2:=K.out.free 2
     have c3:=K.out.cell 3
     have f3:=K.out.free 3
     have c4:=K.out.cell 4
     have f4:=K.out.free 4
     go_wp2
     simp only [←hwz]
     clear hwz
     rw [HR.out]
     refine bodyPost_ret (v:=rdAc none) (by simp [results,Tryz.results48,go_sem,q0,q1,q2,q3,q4,rdAc_none]) rfl ⟨rfl,HZ.out⟩
    | some n=>
     go_wp2_with fail
     refine (Atoi_ok p _ rfl n _ (by omega) ha).mono ?_
     rintro e w3 ⟨rfl,hb⟩
     have HA:=H_ ha
     replace K:=H_ (K.out.below hb K.out.lt)
     replace HB:=H_ (HB.out.trans (hb.mono HB.out.size))
     clear hb ha HE
     go_wp2_with fail
     obtain ⟨w4,hw4⟩:∃ w4,w4=w3.alloc (.cells #[.int .i64 1,.int .i64 0,.bool false,.int .i64 0,.int .i64 n] 69):=⟨_,rfl⟩
     rw [←hw4]
     have hb:Below w3.heap.size w3 w4:=by rw [hw4];exact (B_ _ _).alloc (le_ _) _
     have K4:Hid (Blk w3.heap.size (.cells #[.int .i64 1,.int .i64 0,.bool false,.int .i64 0,.int .i64 n] 69) w4):=by rw [hw4];exact H_ (Blk.new _ _)
     replace K:=H_ (K.out.below hb K.out.lt)
     replace HB:=H_ (HB.out.trans (hb.mono HB.out.size))
     clear hb hw4
     refine (impl_ActText ⟨1,zeroMv,n⟩ _).mono ?_
     rintro e w5 ⟨rfl,hb⟩
     replace K4:=H_ (K4.out.below hb K4.out.lt)
     replace K:=H_ (K.out.below hb K.out.lt)
     replace HB:=H_ (HB.out.trans (hb.mono HB.out.size))
     clear hb
     have d0:=K4.out.cell 0
     have d1:=K4.out.cell 1
     have d2:=K4.out.cell 2
     have d3:=K4.out.cell 3
     have d4:=K4.out.cell 4
     cases hq:(actText ⟨1,zeroMv,n⟩==l)
     ·have HR:=H_ (ra_none HR1.out HSM.out (db_no3 (n:=n) (by rw [←HP.out];exact HA.out) (by simpa using hq)))
      obtain ⟨wz,hwz⟩:∃ wz,wz=(((((w5.setCell ⟨w.heap.size,0,none⟩ (.int .i64 0)).setCell ⟨w.heap.size,1,none⟩ (.int .i64 0)).setCell ⟨w.heap.size,2,none⟩ (.bool false)).setCell ⟨w.heap.size,3,none⟩ (.int .i64 0)).setCell ⟨w.heap.size,4,none⟩ (.int .i64 0)):=⟨_,rfl⟩
      have KZ:=K.out.set5 (.int .i64 0) (.int .i64 0) (.bool false) (.int .i64 0) (.int .i64 0)
      have HZ:=H_ (Below.set5 HB.out (le_ _) (.int .i64 0) (.int .i64 0) (.bool false) (.int .i64 0) (.int .i64 0))
      rw [←hwz] at KZ HZ
      have q0:=KZ.cell 0
      have q1:=KZ.cell 1
      have q2:=KZ.cell 2
      have q3:=KZ.cell 3
      have q4:=KZ.cell 4
      clear KZ
      have c0:=K.out.cell 0
      have f0:=K.out.free 0
      have c1:=K.out.cell 1
      have f1:=K.out.free 1
      have c2:=K.out.cell 2
      have f2:=K.out.free 2
      have c3:=K.out.cell 3
      have f3:=K.out.free 3
      have c4:=K.out.cell 4
      have f4:=K.out.free 4
      go_wp2
      simp only [←hwz]
      clear hwz
      rw [HR.out]
      refine bodyPost_ret (v:=rdAc none) (by simp [results,Tryz.results48,go_sem,q0,q1,q2,q3,q4,rdAc_none]) rfl ⟨rfl,HZ.out⟩
     ·have HR:Hid (readAc l=some ⟨1,zeroMv,n⟩):=by
       obtain ⟨g1,g2,g3⟩:=db_yes (n:=n) (l:=l) (by simpa using hq) HNE.out
       have:=ra_back g3
       rw [show ((n.toNat:Nat):Int)=n by omega] at this
       exact H_ this
      obtain ⟨wz,hwz⟩:∃ wz,wz=(((((w5.setCell ⟨w.heap.size,0,none⟩ (.int .i64 1)).setCell ⟨w.heap.size,1,none⟩ (.int .i64 0)).setCell ⟨w.heap.size,2,none⟩ (.bool false)).setCell ⟨w.heap.size,3,none⟩ (.int .i64 0)).setCell ⟨w.heap.size,4,none⟩ (.int .i64 n)):=⟨_,rfl⟩
      have KZ:=K.out.set5 (.int .i64 1) (.int .i64 0) (.bool false) (.int .i64 0) (.int .i64 n)
      have HZ:=H_ (Below.set5 HB.out (le_ _) (.int .i64 1) (.int .i64 0) (.bool false) (.int .i64 0) (.int .i64 n))
      rw [←hwz] at KZ HZ
      have q0:=KZ.cell 0
      have q1:=KZ.cell 1
      have q2:=KZ.cell 2
      have q3:=KZ.cell 3
      have q4:=KZ.cell 4
      clear KZ
      have c0:=K.out.cell 0
      have f0:=K.out.free 0
      have c1:=K.out.cell 1
      have f1:=K.out.free 1
      have c2:=K.out.cell 2
      have f2:=K.out.free 2
      have c3:=K.out.cell 3
      have f3:=K.out.free 3
      have c4:=K.out.cell 4
      have f4:=K.out.free 4
      go_wp2
      simp only [←hwz]
      clear hwz
      rw [HR.out]
      refine bodyPost_ret (v:=rdAc (some ⟨1,zeroMv,n⟩)) (by simp [results,Tryz.results48,go_sem,q0,q1,q2,q3,q4,rdAc,zeroMv]) rfl ⟨rfl,HZ.out⟩
def NopeB (l:List UInt8) (n:Nat):Prop:=∀ k,k<n→k<100→backT++dig2 k≠l
theorem NopeB.step {l:List UInt8} {n:Nat} (h:NopeB l n) (hne:actText ⟨1,zeroMv,n⟩≠l) (hn:n<100):NopeB l (n+1):=by
 intro k hk h1
 by_cases hlt:k<n
 ·exact h k hlt h1
 ·obtain rfl:k=n:=by omega
  rw [actBack,if_pos (by omega)] at hne
  exact hne
theorem NopeB.all {l:List UInt8} (h:NopeB l 100):deBack l=none:=deBack_none fun k hk=>h k hk hk
theorem db_other {l:List UInt8} (h:l.length≤4∨l.head?≠some 98):deBack l=none:=deBack_none fun n hn e=>by
 subst e
 rcases h with h|h
 ·simp [backT] at h
 ·exact h rfl
theorem ra_rest {l:List UInt8} (h2:(l==simpleT)=false) (h3:deBack l=none):readAc l=(readMv l).map fun m=>⟨0,m,0⟩:=by
 cases h:readMv l with
 | some m=>rw [ra_move h];rfl
 | none=>rw [ra_none h h2 h3];rfl
theorem eq98 (c:UInt8):((c.toNat:Int)==98)=(c==98):=by
 rw [Bool.eq_iff_iff]
 simp only [beq_iff_eq]
 constructor
 ·intro h;apply UInt8.toNat_inj.1;simpa using (by omega:c.toNat=98)
 ·intro h;subst h;rfl
theorem rdAc_map (o:Option Mv):∃ m ok,m=o.getD zeroMv∧ok=o.isSome∧rdMv o=.tuple #[.agg #[.int .i64 m.which,.bool m.back,.int .i64 m.at_],.bool ok]∧rdAc (o.map fun m=>⟨0,m,0⟩)=.tuple #[.agg #[.int .i64 0,.int .i64 m.which,.bool m.back,.int .i64 m.at_,.int .i64 0],.bool ok]:=
 ⟨_,_,rfl,rfl,rfl,by cases o<;>rfl⟩
theorem spec_ReadAct (l:List UInt8) (s:ByteArray) (hs:s=⟨l.toArray⟩) (w:World) (hl:l.length≤2097152) :
    Calls Tryz.prog 51 #[.string s] w fun e w'=>e=.returned (rdAc (readAc l))∧Below w.heap.size w w':=by
  subst hs
  obtain ⟨w0,hw0⟩:∃ w0,w0=w.alloc (.cells #[.int .i64 0,.int .i64 0,.bool false,.int .i64 0,.int .i64 0] 69):=⟨_,rfl⟩
  have HB:Hid (Below w.heap.size w w0):=by rw [hw0];exact H_ ((B_ _ _).alloc (le_ _) _)
  have K:Hid (Blk w.heap.size (.cells #[.int .i64 0,.int .i64 0,.bool false,.int .i64 0,.int .i64 0] 69) w0):=by rw [hw0];exact H_ (Blk.new w _)
  cases hsm:l==simpleT with
  | true=>
    have HR:=H_ (ra_simple (l:=l) (by simpa using hsm))
    have hsm':(l==[115,105,109,112,108,101])=true:=hsm
    clear hsm
    go_enter Tryz.func51,Tryz.ntmps51
    go_wp2
    rw [HR.out]
    refine bodyPost_ret (v:=rdAc (some ⟨2,zeroMv,0⟩)) (by simp [results,Tryz.results51,go_sem,rdAc,zeroMv]) rfl ⟨rfl,(B_ _ _).alloc (le_ _) _⟩
  | false=>
    have hsm':(l==[115,105,109,112,108,101])=false:=hsm
    have HSM:=H_ hsm
    clear hsm
    by_cases hgood:4<l.length∧l.head?=some 98
    · obtain ⟨h4,h98⟩:=hgood
      obtain ⟨r,rfl⟩:∃ r,l=98 :: r:=by
        cases l with
        | nil=>simp at h98
        | cons c r=>simp at h98;exact ⟨r,by rw [h98]⟩
      have hr4:4≤r.length:=by simp at h4;omega
      clear h98 h4
      go_enter Tryz.func51,Tryz.ntmps51
      go_wp2_with fail
      simp only [←hw0]
      clear hw0
      go_loopw [4] (fun i wr=>∃ n:Nat,n≤100∧i=.int .i64 n∧Hid (NopeB (98 :: r) n)∧Hid (Blk w.heap.size (.cells #[.int .i64 0,.int .i64 0,.bool false,.int .i64 0,.int .i64 0] 69) wr)∧Hid (Below w.heap.size w wr)) (fun i _=>100-(intOf i).toNat)
      case atStart=>exact ⟨0,by omega,rfl,H_ (by intro k hk;omega),K,HB⟩
      case round=>
        clear HB K
        obtain ⟨n,hn,rfl,HN,K,HB⟩:=hrel
        by_cases hlt:n<100
        · go_wp2_with fail
          refine (spec_ActText ⟨1,zeroMv,n⟩ _).mono ?_
          rintro e w5 ⟨rfl,hb⟩
          replace K:=H_ (K.out.below hb K.out.lt)
          replace HB:=H_ (HB.out.trans (hb.mono HB.out.size))
          clear hb
          cases hq:(actText ⟨1,zeroMv,n⟩==98 :: r)
          · go_wp2
            go_roundw
            case rel=>exact ⟨n+1,by omega,by go_num,H_ (HN.out.step (by simpa using hq) hlt),K,HB⟩
            case measure=>simp [intOf];omega
          · have HR:Hid (readAc (98 :: r)=some ⟨1,zeroMv,n⟩):=by
              obtain ⟨g1,g2,g3⟩:=db_yes (n:=n) (l:=98 :: r) (by simpa using hq) (by simp)
              exact H_ (ra_back g3)
            obtain ⟨wz,hwz⟩:∃ wz,wz=(((((w5.setCell ⟨w.heap.size,0,none⟩ (.int .i64 1)).setCell ⟨w.heap.size,1,none⟩ (.int .i64 0)).setCell ⟨w.heap.size,2,none⟩ (.bool false)).setCell ⟨w.heap.size,3,none⟩ (.int .i64 0)).setCell ⟨w.heap.size,4,none⟩ (.int .i64 n)):=⟨_,rfl⟩
            have KZ:=K.out.set5 (.int .i64 1) (.int .i64 0) (.bool false) (.int .i64 0) (.int .i64 n)
            have HZ:=H_ (Below.set5 HB.out (le_ _) (.int .i64 1) (.int .i64 0) (.bool false) (.int .i64 0) (.int .i64 n))
            rw [←hwz] at KZ HZ
            have q0:=KZ.cell 0
            have q1:=KZ.cell 1
            have q2:=KZ.cell 2
            have q3:=KZ.cell 3
            have q4:=KZ.cell 4
            clear KZ
            have c0:=K.out.cell 0
            have f0:=K.out.free 0
            have c1:=K.out.cell 1
            have f1:=K.out.free 1
            have c2:=K.out.cell 2
            have f2:=K.out.free 2
            have c3:=K.out.cell 3
            have f3:=K.out.free 3
            have c4:=K.out.cell 4
            have f4:=K.out.free 4
            go_wp2
            simp only [←hwz]
            clear hwz
            rw [HR.out]
            refine bodyPost_ret (v:=rdAc (some ⟨1,zeroMv,n⟩)) (by simp [results,Tryz.results51,go_sem,q0,q1,q2,q3,q4,rdAc,zeroMv]) rfl ⟨rfl,HZ.out⟩
        · obtain rfl:n=100:=by omega
          have HR:=H_ (ra_rest HSM.out HN.out.all)
          go_wp2_with fail
          obtain ⟨m,ok,hm,hok,hq1,hq2⟩:=rdAc_map (readMv (98 :: r))
          have HQ1:=H_ hq1
          have HQ2:=H_ hq2
          clear hm hok hq1 hq2
          refine (spec_ReadMove (98 :: r) _ rfl _ hl).mono ?_
          rintro e w6 ⟨rfl,hb⟩
          rw [HQ1.out]
          replace K:=H_ (K.out.below hb K.out.lt)
          replace HB:=H_ (HB.out.trans (hb.mono HB.out.size))
          clear hb
          have hb:Below w6.heap.size w6 (w6.alloc (.cells #[.int .i64 m.which,.bool m.back,.int .i64 m.at_] 67)):=(B_ _ _).alloc (le_ _) _
          replace K:=H_ (K.out.below hb K.out.lt)
          replace HB:=H_ (HB.out.trans (hb.mono HB.out.size))
          clear hb
          obtain ⟨wz,hwz⟩:∃ wz,wz=((((((w6.alloc (.cells #[.int .i64 m.which,.bool m.back,.int .i64 m.at_] 67)).setCell ⟨w.heap.size,0,none⟩ (.int .i64 0)).setCell ⟨w.heap.size,1,none⟩ (.int .i64 m.which)).setCell ⟨w.heap.size,2,none⟩ (.bool m.back)).setCell ⟨w.heap.size,3,none⟩ (.int .i64 m.at_)).setCell ⟨w.heap.size,4,none⟩ (.int .i64 0)):=⟨_,rfl⟩
          have KZ:=K.out.set5 (.int .i64 0) (.int .i64 m.which) (.bool m.back) (.int .i64 m.at_) (.int .i64 0)
          have HZ:=H_ (Below.set5 HB.out (le_ _) (.int .i64 0) (.int .i64 m.which) (.bool m.back) (.int .i64 m.at_) (.int .i64 0))
          rw [←hwz] at KZ HZ
          have q0:=KZ.cell 0
          have q1:=KZ.cell 1
          have q2:=KZ.cell 2
          have q3:=KZ.cell 3
          have q4:=KZ.cell 4
          clear KZ
          have c0:=K.out.cell 0
          have f0:=K.out.free 0
          have c1:=K.out.cell 1
          have f1:=K.out.free 1
          have c2:=K.out.cell 2
          have f2:=K.out.free 2
          have c3:=K.out.cell 3
          have f3:=K.out.free 3
          have c4:=K.out.cell 4
          have f4:=K.out.free 4
          go_wp2
          simp only [←hwz]
          clear hwz
          rw [HR.out,HQ2.out]
          refine bodyPost_ret (v:=.tuple #[.agg #[.int .i64 0,.int .i64 m.which,.bool m.back,.int .i64 m.at_,.int .i64 0],.bool ok]) (by simp [results,Tryz.results51,go_sem,q0,q1,q2,q3,q4]) rfl ⟨rfl,HZ.out⟩
    · have HR:=H_ (ra_rest HSM.out (db_other (l:=l) (by
        rcases Nat.lt_or_ge 4 l.length with h|h
        · right;intro h';exact hgood ⟨h,h'⟩
        · left;exact h)))
      by_cases h4:4<l.length
      · obtain ⟨c,r,rfl⟩:∃ c r,l=c :: r:=by
          cases l with
          | nil=>simp at h4
          | cons c r=>exact ⟨c,r,rfl⟩
        have hc:(c==98)=false:=by
          cases hc:c==98
          · rfl
          · exact absurd ⟨h4, by have : c = 98 := by simpa using hc
                                 rw [this];rfl⟩ hgood
        have h0:0<(ByteArray.mk (c :: r).toArray).size:=by show 0<(c :: r).toArray.size;simp
        have hc':((((ByteArray.mk (c :: r).toArray)[0]'h0).toNat:Int)==98)=false:=by rw [idx0,eq98,hc]
        have hr4:4≤r.length:=by simp at h4;omega
        clear hgood h4 hc
        go_enter Tryz.func51,Tryz.ntmps51
        go_wp2_with fail
        simp only [←hw0]
        clear hw0
        go_loopw [4] (fun i wr=>i=.int .i64 0∧Hid (Blk w.heap.size (.cells #[.int .i64 0,.int .i64 0,.bool false,.int .i64 0,.int .i64 0] 69) wr)∧Hid (Below w.heap.size w wr)) (fun i _=>100-(intOf i).toNat)
        case atStart=>exact ⟨rfl,K,HB⟩
        case round=>
          clear HB K
          obtain ⟨rfl,K,HB⟩:=hrel
          go_wp2_with fail
          obtain ⟨m,ok,hm,hok,hq1,hq2⟩:=rdAc_map (readMv (c :: r))
          have HQ1:=H_ hq1
          have HQ2:=H_ hq2
          clear hm hok hq1 hq2
          refine (spec_ReadMove (c :: r) _ rfl _ hl).mono ?_
          rintro e w6 ⟨rfl,hb⟩
          rw [HQ1.out]
          replace K:=H_ (K.out.below hb K.out.lt)
          replace HB:=H_ (HB.out.trans (hb.mono HB.out.size))
          clear hb
          have hb:Below w6.heap.size w6 (w6.alloc (.cells #[.int .i64 m.which,.bool m.back,.int .i64 m.at_] 67)):=(B_ _ _).alloc (le_ _) _
          replace K:=H_ (K.out.below hb K.out.lt)
          replace HB:=H_ (HB.out.trans (hb.mono HB.out.size))
          clear hb
          obtain ⟨wz,hwz⟩:∃ wz,wz=((((((w6.alloc (.cells #[.int .i64 m.which,.bool m.back,.int .i64 m.at_] 67)).setCell ⟨w.heap.size,0,none⟩ (.int .i64 0)).setCell ⟨w.heap.size,1,none⟩ (.int .i64 m.which)).setCell ⟨w.heap.size,2,none⟩ (.bool m.back)).setCell ⟨w.heap.size,3,none⟩ (.int .i64 m.at_)).setCell ⟨w.heap.size,4,none⟩ (.int .i64 0)):=⟨_,rfl⟩
          have KZ:=K.out.set5 (.int .i64 0) (.int .i64 m.which) (.bool m.back) (.int .i64 m.at_) (.int .i64 0)
          have HZ:=H_ (Below.set5 HB.out (le_ _) (.int .i64 0) (.int .i64 m.which) (.bool m.back) (.int .i64 m.at_) (.int .i64 0))
          rw [←hwz] at KZ HZ
          have q0:=KZ.cell 0
          have q1:=KZ.cell 1
          have q2:=KZ.cell 2
          have q3:=KZ.cell 3
          have q4:=KZ.cell 4
          clear KZ
          have c0:=K.out.cell 0
          have f0:=K.out.free 0
          have c1:=K.out.cell 1
          have f1:=K.out.free 1
          have c2:=K.out.cell 2
          have f2:=K.out.free 2
          have c3:=K.out.cell 3
          have f3:=K.out.free 3
          have c4:=K.out.cell 4
          have f4:=K.out.free 4
          go_wp2
          simp only [←hwz]
          clear hwz
          rw [HR.out,HQ2.out]
          refine bodyPost_ret (v:=.tuple #[.agg #[.int .i64 0,.int .i64 m.which,.bool m.back,.int .i64 m.at_,.int .i64 0],.bool ok]) (by simp [results,Tryz.results51,go_sem,q0,q1,q2,q3,q4]) rfl ⟨rfl,HZ.out⟩
      · have h4':l.length≤4:=by omega
        clear hgood h4
        go_enter Tryz.func51,Tryz.ntmps51
        go_wp2_with fail
        simp only [←hw0]
        clear hw0
        go_loopw [4] (fun i wr=>i=.int .i64 0∧Hid (Blk w.heap.size (.cells #[.int .i64 0,.int .i64 0,.bool false,.int .i64 0,.int .i64 0] 69) wr)∧Hid (Below w.heap.size w wr)) (fun i _=>100-(intOf i).toNat)
        case atStart=>exact ⟨rfl,K,HB⟩
        case round=>
          clear HB K
          obtain ⟨rfl,K,HB⟩:=hrel
          go_wp2_with fail
          obtain ⟨m,ok,hm,hok,hq1,hq2⟩:=rdAc_map (readMv (l))
          have HQ1:=H_ hq1
          have HQ2:=H_ hq2
          clear hm hok hq1 hq2
          refine (spec_ReadMove (l) _ rfl _ hl).mono ?_
          rintro e w6 ⟨rfl,hb⟩
          rw [HQ1.out]
          replace K:=H_ (K.out.below hb K.out.lt)
          replace HB:=H_ (HB.out.trans (hb.mono HB.out.size))
          clear hb
          have hb:Below w6.heap.size w6 (w6.alloc (.cells #[.int .i64 m.which,.bool m.back,.int .i64 m.at_] 67)):=(B_ _ _).alloc (le_ _) _
          replace K:=H_ (K.out.below hb K.out.lt)
          replace HB:=H_ (HB.out.trans (hb.mono HB.out.size))
          clear hb
          obtain ⟨wz,hwz⟩:∃ wz,wz=((((((w6.alloc (.cells #[.int .i64 m.which,.bool m.back,.int .i64 m.at_] 67)).setCell ⟨w.heap.size,0,none⟩ (.int .i64 0)).setCell ⟨w.heap.size,1,none⟩ (.int .i64 m.which)).setCell ⟨w.heap.size,2,none⟩ (.bool m.back)).setCell ⟨w.heap.size,3,none⟩ (.int .i64 m.at_)).setCell ⟨w.heap.size,4,none⟩ (.int .i64 0)):=⟨_,rfl⟩
          have KZ:=K.out.set5 (.int .i64 0) (.int .i64 m.which) (.bool m.back) (.int .i64 m.at_) (.int .i64 0)
          have HZ:=H_ (Below.set5 HB.out (le_ _) (.int .i64 0) (.int .i64 m.which) (.bool m.back) (.int .i64 m.at_) (.int .i64 0))
          rw [←hwz] at KZ HZ
          have q0:=KZ.cell 0
          have q1:=KZ.cell 1
          have q2:=KZ.cell 2
          have q3:=KZ.cell 3
          have q4:=KZ.cell 4
          clear KZ
          have c0:=K.out.cell 0
          have f0:=K.out.free 0
          have c1:=K.out.cell 1
          have f1:=K.out.free 1
          have c2:=K.out.cell 2
          have f2:=K.out.free 2
          have c3:=K.out.cell 3
          have f3:=K.out.free 3
          have c4:=K.out.cell 4
          have f4:=K.out.free 4
          go_wp2
          simp only [←hwz]
          clear hwz
          rw [HR.out,HQ2.out]
          refine bodyPost_ret (v:=.tuple #[.agg #[.int .i64 0,.int .i64 m.which,.bool m.back,.int .i64 m.at_,.int .i64 0],.bool ok]) (by simp [results,Tryz.results51,go_sem,q0,q1,q2,q3,q4]) rfl ⟨rfl,HZ.out⟩
end Go.Proofs.YtfnnhimopokpnaaGreatDoor
