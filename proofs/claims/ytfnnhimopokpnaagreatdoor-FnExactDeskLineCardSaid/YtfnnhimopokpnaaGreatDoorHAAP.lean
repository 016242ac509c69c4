/- Lemmas for this seat; no condition. -/
import Derived.Test.YtfnnhimopokpnaaGreatDoorHAAL
import Derived.Test.YtfnnhimopokpnaaGreatDoorHAAO
import Derived.Deep.DeepCutAuto
import Derived.Deep.DrawnRows
namespace Go.Proofs.YtfnnhimopokpnaaGreatDoor
open Go.RowKit
set_option maxRecDepth 100000
set_option maxHeartbeats 0
set_option linter.unusedVariables false
def RetDS (P:Value→Value→Value→Value→ByteArray→World→Prop) (e:Ending) (w':World):Prop:=∃ a b c d s,e=.returned (.tuple #[aggD a b c d,.string s])∧P a b c d s w'
def okS (b:Bool):ByteArray:=if b then ⟨#[111,107]⟩ else ⟨#[110,111]⟩
theorem rdAc_form {o:Option Ac} {a:Ac} (h:o=some a):rdAc o=.tuple #[aggA a,.bool true]:=by subst h;rfl
theorem impl_DeskLine_act (lo hi:Nat) (a b c d:Value) (D:Dsk) (A:Ac) (l:List UInt8) (s:ByteArray) (hs:s=⟨l.toArray⟩) (w:World) (hE:EnvK w) (hN:Env w) (hx:DeskAt lo hi w a b c d D) (hh:hi≤w.heap.size) (hm:D.size≤1048576) (hv:deskV D=true) (hl:l.length≤2097152) (hr:readAc l=some A) :
  Calls Tryz.prog 20 #[aggD a b c d,.string s] w (RetDS fun a' b' c' d' s' w'=>s'=okS (deskDo D A).2∧DeskOwn w.heap.size w'.heap.size w' a' b' c' d' (deskDo D A).1∧Below w.heap.size w w'):=by
 subst hs
 have HM:=H_ hm
 obtain ⟨w0,hw0⟩:∃ w0,w0=(w.alloc (.cells #[a,b,c,d] 31)).alloc (.cells #[.slice none 0 0,.slice none 0 0,.slice none 0 0,.slice none 0 0] 31):=⟨_,rfl⟩
 have hb0:Below w.heap.size w w0:=by rw [hw0];exact ((B_ _ _).alloc (le_ _) _).alloc (by simp) _
 have hs0:w0.heap.size=w.heap.size+2:=by rw [hw0];simp
 have K1:Hid (Blk w.heap.size (.cells #[a,b,c,d] 31) w0):=by
  rw [hw0]
  exact H_ ((Blk.new w _).below ((B_ (w.alloc _).heap.size _).alloc (le_ _) _) (by simp))
 have K3:Hid (Blk (w.heap.size+1) (.cells #[.slice none 0 0,.slice none 0 0,.slice none 0 0,.slice none 0 0] 31) w0):=by
  have h:=Blk.new (w.alloc (.cells #[a,b,c,d] 31)) (.cells #[.slice none 0 0,.slice none 0 0,.slice none 0 0,.slice none 0 0] 31)
  rw [alloc_size] at h
  rw [hw0];exact H_ h
 have HX:=H_ (hx.below hb0 hh)
 have HB:=H_ hb0
 have HE:=H_ (hE.below hb0)
 have HN:=H_ (hN.below hb0)
 have HW0:=H_ hw0
 have HV:=H_ hv
 have HRA:=H_ hr
 clear hx hE hN hb0 hw0 hv hr hm
 have d0:=K1.out.cell 0
 have d1:=K1.out.cell 1
 have d2:=K1.out.cell 2
 have d3:=K1.out.cell 3
 go_enter Tryz.func20,Tryz.ntmps20
 go_wp2_with (rw [←HW0.out])
 refine (impl_DeskValid _ _ a b c d D w0 HE.out HX.out (by omega) HM.out).mono ?_
 rintro e1 w1 ⟨rfl,hb1⟩
 rw [HV.out]
 have hs1:=hb1.size
 replace HB:=H_ (HB.out.trans (hb1.mono (by omega)))
 replace K1:=H_ (K1.out.below hb1 K1.out.lt)
 replace K3:=H_ (K3.out.below hb1 K3.out.lt)
 replace HX:=H_ (HX.out.below hb1 (by omega))
 replace HE:=H_ (HE.out.below hb1)
 replace HN:=H_ (HN.out.below hb1)
 clear hb1 d0 d1 d2 d3
 go_wp2_with fail
 refine (impl_ReadAct l _ rfl w1 HN.out hl).mono ?_
 rintro e2 w2 ⟨rfl,hb2⟩
 rw [rdAc_form HRA.out]
 unfold aggA
 have hs2:=hb2.size
 replace HB:=H_ (HB.out.trans (hb2.mono (by omega)))
 replace K1:=H_ (K1.out.below hb2 K1.out.lt)
 replace K3:=H_ (K3.out.below hb2 K3.out.lt)
 replace HX:=H_ (HX.out.below hb2 (by omega))
 replace HE:=H_ (HE.out.below hb2)
 clear hb2 HN
 obtain ⟨w3,hw3⟩:∃ w3,w3=w2.alloc (.cells #[.int .i64 A.kind,.int .i64 A.step.which,.bool A.step.back,.int .i64 A.step.at_,.int .i64 A.count] 69):=⟨_,rfl⟩
 obtain ⟨hb3,KA_,hs3⟩:=box_facts2 hw3
 have KA:=H_ KA_
 replace HB:=H_ (HB.out.trans (hb3.mono (by omega)))
 replace K1:=H_ (K1.out.below hb3 K1.out.lt)
 replace K3:=H_ (K3.out.below hb3 K3.out.lt)
 replace HX:=H_ (HX.out.below hb3 (by omega))
 replace HE:=H_ (HE.out.below hb3)
 have d0:=K1.out.cell 0
 have d1:=K1.out.cell 1
 have d2:=K1.out.cell 2
 have d3:=K1.out.cell 3
 have a0:=KA.out.cell 0
 have a1:=KA.out.cell 1
 have a2:=KA.out.cell 2
 have a3:=KA.out.cell 3
 have a4:=KA.out.cell 4
 rw [hw3] at d0 d1 d2 d3 a0 a1 a2 a3 a4
 clear hb3 KA_
 go_wp2_with fail
 simp only [←hw3]
 clear hw3 d0 d1 d2 d3 a0 a1 a2 a3 a4
 refine (impl_DeskDo _ _ a b c d D A w3 HE.out HX.out (by omega) HM.out).mono ?_
 rintro e4 w4 ⟨x0,x1,x2,x3,ok,rfl,o_,hok,hb4⟩
 obtain ⟨R,t,hR⟩:∃ R t,deskDo D A=(R,t):=⟨_,_,rfl⟩
 have HR:=H_ hR
 rw [hR] at o_ hok
 obtain rfl:ok=t:=hok
 clear hR
 obtain ⟨z0,z1,z2,z3,z4,z5,z6,z7,rfl,rfl,rfl,rfl⟩:=o_.open
 have hs4:=hb4.size
 replace HB:=H_ (HB.out.trans (hb4.mono (by omega)))
 replace K3:=H_ (K3.out.below hb4 K3.out.lt)
 have O4:=H_ (o_.wide (lo':=w.heap.size) (by omega) (le_ _))
 have O4':=H_ o_
 clear hb4 o_ K1 HX HE KA
 obtain ⟨w5,hw5⟩:∃ w5,w5=w4.alloc (.cells #[(.slice z0 R.first.length z1),(.slice z2 R.goal.length z3),(.slice z4 R.made.length z5),(.slice z6 R.now.length z7)] 31):=⟨_,rfl⟩
 obtain ⟨hb5,K5,hs5⟩:=box_facts2 hw5
 replace HB:=H_ (HB.out.trans (hb5.mono (by omega)))
 replace K3:=H_ (K3.out.below hb5 K3.out.lt)
 replace O4':=H_ (O4'.out.below hb5 (le_ _))
 have k0:=K5.cell 0
 have k1:=K5.cell 1
 have k2:=K5.cell 2
 have k3:=K5.cell 3
 have c0:=K3.out.cell 0
 have c1:=K3.out.cell 1
 have c2:=K3.out.cell 2
 have c3:=K3.out.cell 3
 have f0:=K3.out.free 0
 have f1:=K3.out.free 1
 have f2:=K3.out.free 2
 have f3:=K3.out.free 3
 have HW5:=H_ hw5
 obtain ⟨wz,hwz⟩:∃ wz,wz=(((w5.setCell ⟨w.heap.size+1,0,none⟩ (.slice z0 R.first.length z1)).setCell ⟨w.heap.size+1,1,none⟩ (.slice z2 R.goal.length z3)).setCell ⟨w.heap.size+1,2,none⟩ (.slice z4 R.made.length z5)).setCell ⟨w.heap.size+1,3,none⟩ (.slice z6 R.now.length z7):=⟨_,rfl⟩
 have KZ:=K3.out.set4 (.slice z0 R.first.length z1) (.slice z2 R.goal.length z3) (.slice z4 R.made.length z5) (.slice z6 R.now.length z7)
 have hO:=Outside.set4 (w.heap.size+1) w5 (.slice z0 R.first.length z1) (.slice z2 R.goal.length z3) (.slice z4 R.made.length z5) (.slice z6 R.now.length z7)
 rw [←hwz] at KZ hO
 have hsz:=hO.size
 have HZ:=H_ (Below.outside HB.out hO (by omega) (by omega))
 have OZ:=H_ (O4'.out.outside hO (.inr (by omega)))
 have q0:=KZ.cell 0
 have q1:=KZ.cell 1
 have q2:=KZ.cell 2
 have q3:=KZ.cell 3
 rw [hw5] at k0 k1 k2 k3 c0 c1 c2 c3 f0 f1 f2 f3 hwz
 clear KZ hO hb5 K5 hw5
 cases ok
 all_goals (
  go_wp2_with fail
  simp only [←hwz])
 ·refine bodyPost_ret (v:=.tuple #[aggD (.slice z0 R.first.length z1) (.slice z2 R.goal.length z3) (.slice z4 R.made.length z5) (.slice z6 R.now.length z7),.string ⟨#[110,111]⟩]) (by simp [results,Tryz.results20,go_sem,q0,q1,q2,q3]) rfl ⟨_,_,_,_,_,rfl,?_,?_,HZ.out⟩
  ·rw [HR.out];rfl
  ·rw [HR.out];exact OZ.out.wide (by omega) (by omega)
 ·refine bodyPost_ret (v:=.tuple #[aggD (.slice z0 R.first.length z1) (.slice z2 R.goal.length z3) (.slice z4 R.made.length z5) (.slice z6 R.now.length z7),.string ⟨#[111,107]⟩]) (by simp [results,Tryz.results20,go_sem,q0,q1,q2,q3]) rfl ⟨_,_,_,_,_,rfl,?_,?_,HZ.out⟩
  ·rw [HR.out];rfl
  ·rw [HR.out];exact OZ.out.wide (by omega) (by omega)
def leafW:List UInt8→Nat
 | []=>0
 | c :: r=>if c.toNat=33 then min 2 (r.length+1) else if c.toNat=91 then (match (c :: r).findIdx? (·==93) with | some i=>i+1 | none=>0) else 1
def wordF (s:List UInt8):Option Int:=match s with
 | [c]=>if 97≤c.toNat∧c.toNat≤99 then some (16+((c.toNat:Int)-97)) else (readT [c]).map fun t=>((t:Nat):Int)
 | s=>(readT s).map fun t=>((t:Nat):Int)
theorem testT_forms:∀ t,t<16→(testT t).length≤5∧(testT t)≠[]∧leafW (testT t)=(testT t).length∧wordF (testT t)=some ((t:Nat):Int)∧((testT t).head?=some 33→(testT t).length=2)∧((testT t).head?=some 91→(testT t).findIdx? (·==93)=some ((testT t).length-1)) ∧
  ((testT t).head?≠some 33→(testT t).head?≠some 91→(testT t).length=1)∧(testT t).head?≠some 40:=by decide +kernel
theorem ends_len {p:PR} (h:Ends p) {s r:List UInt8} {e:List Int} (hs:p s=some (e,r)):r.length+1≤s.length:=by
 obtain ⟨k,h1,h2,h3⟩:=h _ _ _ hs
 rw [h3,List.length_drop]
 omega
def txtK:KT→Nat→List UInt8
 | .leaf n,_=>if n≤15 then testT n.toNat else [UInt8.ofNat (97+(n-16).toNat)]
 | .star t,_=>txtK t 3++[42]
 | .bin p a b,s=>if (if p then 1 else 2)<s then 40 :: (txtK a (if p then 1 else 2)++(if p then 43 else 59) :: txtK b ((if p then 1 else 2)+1))++[41]
   else txtK a (if p then 1 else 2)++(if p then 43 else 59) :: txtK b ((if p then 1 else 2)+1)
theorem txt_leaf (n:Int) (s:Nat):txtK (.leaf n) s=if n≤15 then testT n.toNat else [UInt8.ofNat (97+(n-16).toNat)]:=rfl
theorem txt_star (t:KT) (s:Nat):txtK (.star t) s=txtK t 3++[42]:=rfl
theorem txt_or1 (a b:KT):txtK (.bin true a b) 1=txtK a 1++43 :: txtK b 2:=rfl
theorem txt_or2 (a b:KT):txtK (.bin true a b) 2=40 :: (txtK (.bin true a b) 1)++[41]:=rfl
theorem txt_or3 (a b:KT):txtK (.bin true a b) 3=40 :: (txtK (.bin true a b) 1)++[41]:=rfl
theorem txt_seq1 (a b:KT):txtK (.bin false a b) 1=txtK a 2++59 :: txtK b 3:=rfl
theorem txt_seq2 (a b:KT):txtK (.bin false a b) 2=txtK a 2++59 :: txtK b 3:=rfl
theorem txt_seq3 (a b:KT):txtK (.bin false a b) 3=40 :: (txtK (.bin false a b) 1)++[41]:=rfl
theorem txt_zero:∀ (t:KT),txtK t 0=txtK t 1
 | .leaf _=>rfl
 | .star _=>rfl
 | .bin true a b=>rfl
 | .bin false a b=>rfl
def KT.leaves:KT→Nat
 | .leaf _=>1
 | .star t=>t.leaves
 | .bin _ a b=>a.leaves+b.leaves
theorem leaves_size:∀ t:KT,2*t.leaves≤t.size+1
 | .leaf _=>by simp [KT.leaves,KT.size]
 | .star t=>by have:=leaves_size t;simp [KT.leaves,KT.size];omega
 | .bin _ a b=>by have:=leaves_size a;have:=leaves_size b;simp [KT.leaves,KT.size];omega
theorem txt_len:∀ {t:KT},t.ok 0=true→∀ s,s≤3→(txtK t s).length≤3*t.size+2*t.leaves
 | .leaf n,h,s,_=>by
  simp only [KT.ok,Bool.and_eq_true,decide_eq_true_eq] at h
  rw [txt_leaf]
  simp only [KT.size,KT.leaves]
  split
  ·have:=(testT_forms n.toNat (by omega)).1
   omega
  ·simp
 | .star t,h,s,_=>by
  have:=txt_len (t:=t) h 3 (by omega)
  rw [txt_star]
  simp only [KT.size,KT.leaves,List.length_append,List.length_cons,List.length_nil]
  omega
 | .bin p a b,h,s,_=>by
  simp only [KT.ok,Bool.and_eq_true] at h
  have ha:=txt_len h.1
  have hb:=txt_len h.2
  simp only [KT.size,KT.leaves]
  have hs:s=0∨s=1∨s=2∨s=3:=by omega
  cases p
  ·have ha2:=ha 2 (by omega)
   have hb3:=hb 3 (by omega)
   rcases hs with rfl|rfl|rfl|rfl<;>simp [txtK]<;>omega
  ·have ha2:=ha 1 (by omega)
   have hb3:=hb 2 (by omega)
   rcases hs with rfl|rfl|rfl|rfl<;>simp [txtK]<;>omega
theorem txt_short {t:KT} (h:t.ok 0=true) (hs:t.size≤40) (s:Nat) (h3:s≤3):(txtK t s).length≤199:=by
 have h1:=txt_len h s h3
 have h2:=leaves_size t
 omega
section
set_option linter.unusedSimpArgs false
theorem convL (w:World) (x:Nat) :
  Sem.run Tryz.prog (convert 40 9 (.slice (some ⟨w.heap.size,0,none⟩) 1 1)) (w.alloc (.cells #[.int .u8 (x:Int)] 5))=.ok (.string ⟨#[UInt8.ofNat x]⟩) (w.alloc (.cells #[.int .u8 (x:Int)] 5)):=by
 have h:=conv_lit (P:=Tryz.prog) 40 9 5 Tryz.underlying40 Tryz.underlying5 Tryz.underlying9 w [(x:Int)]
 simp only [List.length_cons,List.length_nil,List.map_cons,List.map_nil,Nat.zero_add,Int.toNat_natCast] at h
 exact h
theorem cat2 (l t:List UInt8):ByteArray.mk l.toArray++ByteArray.mk t.toArray=ByteArray.mk (l++t).toArray:=by
 apply ByteArray.ext
 simp
theorem SlI.cellS {lo hi n cap b off:Nat} {w:World} {xs:List Int} (h:SlI lo hi w (.slice (some ⟨b,off,none⟩) n cap) xs) (i:Nat) (hi':i<xs.length):w.cell? ⟨b,off+i,none⟩=some (.int .i64 xs[i]):=by
 obtain ⟨b',off',e,_,_,_,hc⟩:=h.get i hi'
 injection e with e
 injection e with e1 e2
 subst e1 e2
 exact hc
def TxtC (t:KT):Prop:=∀ (k lo hi:Nat) (v:Value) (w:World),SlI lo hi w v t.post→t.ok 0=true→t.size≤40→k≤3→hi≤w.heap.size →
 Calls Tryz.prog 103 #[v,.int .i64 k] w fun e w'=>e=.returned (.string ⟨(txtK t k).toArray⟩)∧Below w.heap.size w w'
theorem l2Text_any:∀ t:KT,TxtC t:=by
 intro t
 induction t with
 | leaf n=>
  intro k lo hi v w hx hok hs hk hh
  simp only [KT.ok,Bool.and_eq_true,decide_eq_true_eq] at hok
  obtain ⟨hn0,hn18⟩:=hok
  obtain ⟨a,cap,rfl,_,_⟩:=Sl.shape hx
  obtain ⟨b,off,rfl,hb1,hb2,hb3,hcell⟩:=hx.get 0 (by simp [KT.post])
  have hc1:w.cell? ⟨b,off,none⟩=some (.int .i64 n):=hcell
  have hlen:(KT.leaf n).post.length=1:=rfl
  rw [hlen]
  clear hx hlen hcell
  by_cases h15:n≤15
  ·obtain ⟨m,rfl⟩:∃ m:Nat,n=m:=⟨n.toNat,by omega⟩
   have HT:=H_ (show txtK (.leaf (m:Int)) k=testT m by rw [txt_leaf,if_pos h15];rfl)
   go_enter Tryz.func103,Tryz.ntmps103
   go_wp2_with fail
   refine (spec_TestText m (by omega) w).mono ?_
   rintro e w1 ⟨rfl,hb⟩
   have HB:=H_ hb
   clear hb
   go_wp2
   go_ret
   exact ⟨by rw [HT.out];rfl,HB.out⟩
  ·have h3:n=16∨n=17∨n=18:=by omega
   rcases h3 with rfl|rfl|rfl
   ·have hcv:Sem.run Tryz.prog (convert 40 9 (.slice (some ⟨w.heap.size,0,none⟩) 1 1)) (w.alloc (.cells #[.int .u8 97] 5))=.ok (.string ⟨#[97]⟩) (w.alloc (.cells #[.int .u8 97] 5)):=convL w 97
    go_enter Tryz.func103,Tryz.ntmps103
    go_wp2
    go_ret
    exact ⟨rfl,al_below _ _⟩
   ·have hcv:Sem.run Tryz.prog (convert 40 9 (.slice (some ⟨w.heap.size,0,none⟩) 1 1)) (w.alloc (.cells #[.int .u8 98] 5))=.ok (.string ⟨#[98]⟩) (w.alloc (.cells #[.int .u8 98] 5)):=convL w 98
    go_enter Tryz.func103,Tryz.ntmps103
    go_wp2
    go_ret
    exact ⟨rfl,al_below _ _⟩
   ·have hcv:Sem.run Tryz.prog (convert 40 9 (.slice (some ⟨w.heap.size,0,none⟩) 1 1)) (w.alloc (.cells #[.int .u8 99] 5))=.ok (.string ⟨#[99]⟩) (w.alloc (.cells #[.int .u8 99] 5)):=convL w 99
    go_enter Tryz.func103,Tryz.ntmps103
    go_wp2
    go_ret
    exact ⟨rfl,al_below _ _⟩
 | star x ih=>
  intro k lo hi v w hx hok hs hk hh
  have hokx:x.ok 0=true:=hok
  simp only [KT.size] at hs
  have hlen:(KT.star x).post.length=x.size+1:=by rw [KT.post_length];rfl
  obtain ⟨a,cap,rfl,_,hcm⟩:=Sl.shape hx
  unfold maxLen at hcm
  obtain ⟨b,off,rfl⟩:=hx.notNil (by omega)
  have HSX:Hid (SlI lo hi w (.slice (some ⟨b,off,none⟩) x.size cap) x.post):=H_ (by
   have h2:=hx.sub 0 x.size (Nat.zero_le _) (by omega)
   simpa [KT.post,←KT.post_length] using h2)
  have hc1:w.cell? ⟨b,off+x.size,none⟩=some (.int .i64 21):=by
   have:=hx.cellS x.size (by omega)
   rw [this]
   simp [KT.post,←KT.post_length]
  have e4:x.size≤cap:=by obtain ⟨_,_,e,h,_⟩:=hx;injection e with _ _ e;omega
  have HTX:=H_ (show txtK (.star x) k=txtK x 3++[42] from txt_star x k)
  rw [hlen]
  have hb3:(txtK x 3).length≤199:=txt_short hokx (by omega) 3 (by omega)
  have IH:=H_ ih
  clear ih hok hx
  go_enter Tryz.func103,Tryz.ntmps103
  go_wp2_with fail
  refine (IH.out 3 lo hi _ w HSX.out hokx (by omega) (by omega) hh).mono ?_
  rintro e w1 ⟨rfl,hb⟩
  have HB:=H_ hb
  clear hb
  go_wp2
  go_ret
  exact ⟨by rw [HTX.out,←cat2];rfl,HB.out⟩
 | bin p x y ihx ihy=>
  intro k lo hi v w hx hok hs hk hh
  simp only [KT.ok,Bool.and_eq_true] at hok
  obtain ⟨hokx,hoky⟩:=hok
  simp only [KT.size] at hs
  have hlen:(KT.bin p x y).post.length=x.size+y.size+1:=by rw [KT.post_length];rfl
  have HALF:=H_ (show Calls Tryz.prog 156 #[v] w (RetH fun a b w2=>Below w.heap.size w w2∧SlI lo hi w2 a x.post∧SlI lo hi w2 b y.post) from
   (l2Halves_any lo hi v 0 p x y w hx (by omega) hoky).mono (by rintro e w2 ⟨va,vb,rfl,⟨m,rfl⟩,ha,hb⟩;exact ⟨va,vb,rfl,below_drewN (B_ _ _) m,ha,hb⟩))
  obtain ⟨a,cap,rfl,_,hcm⟩:=Sl.shape hx
  unfold maxLen at hcm
  obtain ⟨b,off,rfl⟩:=hx.notNil (by omega)
  have hc1:w.cell? ⟨b,off+(x.size+y.size),none⟩=some (.int .i64 (KT.op p)):=by
   have:=hx.cellS (x.size+y.size) (by omega)
   rw [this]
   simp [KT.post,←KT.post_length]
  rw [hlen] at HALF ⊢
  have hb1:(txtK x 1).length≤199:=txt_short hokx (by omega) 1 (by omega)
  have hb2:(txtK x 2).length≤199:=txt_short hokx (by omega) 2 (by omega)
  have hc2:(txtK y 2).length≤199:=txt_short hoky (by omega) 2 (by omega)
  have hc3:(txtK y 3).length≤199:=txt_short hoky (by omega) 3 (by omega)
  have IHX:=H_ ihx
  have IHY:=H_ ihy
  clear ihx ihy hx
  cases p
  ·have hop:KT.op false=19:=rfl
   rw [hop] at hc1
   have HSIMPLE:=H_ (show ¬2<k→txtK (.bin false x y) k=txtK x 2++[59]++txtK y 3 from fun h=>by
    have h3:k=0∨k=1∨k=2:=by omega
    rcases h3 with rfl|rfl|rfl<;>first|(exfalso;omega)|simp [txt_zero,txt_seq1,txt_seq2,txt_seq3])
   have HBR:=H_ (show 2<k→txtK (.bin false x y) k=[40]++(txtK x 2++[59]++txtK y 3)++[41] from fun h=>by
    have h3:k=2∨k=3:=by omega
    rcases h3 with rfl|rfl<;>first|(exfalso;omega)|simp [txt_zero,txt_seq1,txt_seq2,txt_seq3])
   go_enter Tryz.func103,Tryz.ntmps103
   go_wp2_with fail
   refine HALF.out.mono ?_
   rintro e w2 ⟨va,vb,rfl,h_,ha,hb⟩
   have hs2:=h_.size
   have HB:=H_ h_
   have HA:=H_ ha
   have HY:=H_ hb
   obtain ⟨aa,ac,rfl,_,_⟩:=Sl.shape ha
   obtain ⟨ba,bc,rfl,_,_⟩:=Sl.shape hb
   clear h_ ha hb HALF
   go_wp2_with fail
   refine (IHX.out 2 lo hi _ w2 HA.out hokx (by omega) (by omega) (by omega)).mono ?_
   rintro e w3 ⟨rfl,hb⟩
   have hs3:=hb.size
   replace HB:=H_ (HB.out.trans (hb.mono HB.out.size))
   replace HY:=H_ (HY.out.below hb (by omega))
   clear hb HA
   go_wp2_with fail
   refine (IHY.out 3 lo hi _ w3 HY.out hoky (by omega) (by omega) (by omega)).mono ?_
   rintro e w4 ⟨rfl,hb⟩
   replace HB:=H_ (HB.out.trans (hb.mono HB.out.size))
   clear hb HY
   by_cases hk1:2<k
   ·have hk2:(2:Int)<(k:Int):=by omega
    have HF:=H_ (HBR.out hk1)
    go_wp2
    go_ret
    exact ⟨by rw [HF.out,←cat2,←cat2,←cat2,←cat2];rfl,HB.out⟩
   ·have hk2:¬(2:Int)<(k:Int):=by omega
    have HF:=H_ (HSIMPLE.out hk1)
    go_wp2
    go_ret
    exact ⟨by rw [HF.out,←cat2,←cat2];rfl,HB.out⟩
  ·have hop:KT.op true=20:=rfl
   rw [hop] at hc1
   have HSIMPLE:=H_ (show ¬1<k→txtK (.bin true x y) k=txtK x 1++[43]++txtK y 2 from fun h=>by
    have h3:k=0∨k=1∨k=2:=by omega
    rcases h3 with rfl|rfl|rfl<;>first|(exfalso;omega)|simp [txt_zero,txt_or1,txt_or2,txt_or3])
   have HBR:=H_ (show 1<k→txtK (.bin true x y) k=[40]++(txtK x 1++[43]++txtK y 2)++[41] from fun h=>by
    have h3:k=2∨k=3:=by omega
    rcases h3 with rfl|rfl<;>first|(exfalso;omega)|simp [txt_zero,txt_or1,txt_or2,txt_or3])
   go_enter Tryz.func103,Tryz.ntmps103
   go_wp2_with fail
   refine HALF.out.mono ?_
   rintro e w2 ⟨va,vb,rfl,h_,ha,hb⟩
   have hs2:=h_.size
   have HB:=H_ h_
   have HA:=H_ ha
   have HY:=H_ hb
   obtain ⟨aa,ac,rfl,_,_⟩:=Sl.shape ha
   obtain ⟨ba,bc,rfl,_,_⟩:=Sl.shape hb
   clear h_ ha hb HALF
   go_wp2_with fail
   refine (IHX.out 1 lo hi _ w2 HA.out hokx (by omega) (by omega) (by omega)).mono ?_
   rintro e w3 ⟨rfl,hb⟩
   have hs3:=hb.size
   replace HB:=H_ (HB.out.trans (hb.mono HB.out.size))
   replace HY:=H_ (HY.out.below hb (by omega))
   clear hb HA
   go_wp2_with fail
   refine (IHY.out 2 lo hi _ w3 HY.out hoky (by omega) (by omega) (by omega)).mono ?_
   rintro e w4 ⟨rfl,hb⟩
   replace HB:=H_ (HB.out.trans (hb.mono HB.out.size))
   clear hb HY
   by_cases hk1:1<k
   ·have hk2:(1:Int)<(k:Int):=by omega
    have HF:=H_ (HBR.out hk1)
    go_wp2
    go_ret
    exact ⟨by rw [HF.out,←cat2,←cat2,←cat2,←cat2];rfl,HB.out⟩
   ·have hk2:¬(1:Int)<(k:Int):=by omega
    have HF:=H_ (HSIMPLE.out hk1)
    go_wp2
    go_ret
    exact ⟨by rw [HF.out,←cat2,←cat2];rfl,HB.out⟩
theorem spec_KatText (lo hi:Nat) (v:Value) (t:KT) (w:World) (hx:SlI lo hi w v t.post) (hok:t.ok 0=true) (hs:t.size≤40) (hh:hi≤w.heap.size) :
  Calls Tryz.prog 53 #[v] w fun e w'=>e=.returned (.string ⟨(txtK t 1).toArray⟩)∧Below w.heap.size w w':=by
 have hkv:=katV_post hok hs
 have hl:t.post.length≤40:=by rw [KT.post_length];exact hs
 obtain ⟨a,cap,rfl,_,_⟩:=Sl.shape hx
 have HX:=H_ hx
 clear hx
 go_enter Tryz.func53,Tryz.ntmps53
 go_wp2_with fail
 refine (spec_KatValid _ _ _ t.post _ HX.out (by omega)).mono ?_
 rintro e w1 ⟨rfl,rfl⟩
 rw [hkv]
 go_wp2_with fail
 refine (l2Text_any t 0 lo hi _ w HX.out hok hs (by omega) hh).mono ?_
 rintro e w2 ⟨rfl,hb⟩
 have HB:=H_ hb
 have HT:=H_ (txt_zero t)
 clear hb
 go_wp2
 go_ret
 exact ⟨by rw [HT.out];rfl,HB.out⟩
end
def katTxt (e:List Int):List UInt8:=if katV e then txtK (treeOf e) 1 else []
theorem katTxt_post {t:KT} (h:t.ok 0=true) (hs:t.size≤40):katTxt t.post=txtK t 1:=by
 rw [katTxt,if_pos (katV_post h hs),treeOf_post h]
theorem spec_KatText_any (lo hi:Nat) (v:Value) (es:List Int) (w:World) (hx:SlI lo hi w v es) (hm:es.length≤1048576) (hh:hi≤w.heap.size) :
  Calls Tryz.prog 53 #[v] w fun e w'=>e=.returned (.string ⟨(katTxt es).toArray⟩)∧Below w.heap.size w w':=by
 cases hk:katV es with
 | true=>
  obtain ⟨t,h1,h2,_,h4⟩:=katV_tree hk
  subst h2
  rw [katTxt_post h1 h4]
  exact spec_KatText lo hi v t w hx h1 h4 hh
 | false=>
  have HT:=H_ (show katTxt es=[] by rw [katTxt,hk];rfl)
  obtain ⟨a,cap,rfl,_,_⟩:=Sl.shape hx
  have HX:=H_ hx
  clear hx
  go_enter Tryz.func53,Tryz.ntmps53
  go_wp2_with fail
  refine (spec_KatValid _ _ _ es _ HX.out (by omega)).mono ?_
  rintro e w1 ⟨rfl,rfl⟩
  rw [hk]
  go_wp2
  go_ret
  exact ⟨by rw [HT.out];rfl,B_ _ _⟩
def isAtomB (n:Int):Bool:=decide (0≤n)&&decide (n≤3)
def tvAt (i:Nat) (x:Int):Bool:=if i%2=0 then isAtomB x else isActB x
def tvAll:Nat→List Int→Bool
 | _,[]=>true
 | i,x :: r=>tvAt i x&&tvAll (i+1) r
def traceV (xs:List Int):Bool:=decide (xs.length%2=1)&&decide (xs.length≤41)&&tvAll 0 xs
theorem tvAll_step (xs:List Int) (k:Nat) (h:k<xs.length):tvAll k (xs.drop k)=(tvAt k xs[k]&&tvAll (k+1) (xs.drop (k+1))):=by
 rw [List.drop_eq_getElem_cons h];rfl
theorem tvAll_end (xs:List Int) (k:Nat) (h:xs.length≤k):tvAll k (xs.drop k)=true:=by
 rw [List.drop_of_length_le h];rfl
theorem tvAll_at (xs:List Int):∀ (i k:Nat) (h:k<xs.length),tvAll i xs=true→tvAt (i+k) xs[k]=true:=by
 induction xs with
 | nil=>intro i k h;simp at h
 | cons x r ih=>
  intro i k h ht
  simp only [tvAll,Bool.and_eq_true] at ht
  cases k with
  | zero=>exact ht.1
  | succ k=>
   have:=ih (i+1) k (by simpa using h) ht.2
   rw [show i+(k+1)=i+1+k by omega]
   exact this
theorem traceV_even {xs:List Int} (h:traceV xs=true) (k:Nat) (hk:k<xs.length) (hp:k%2=0):0≤xs[k]∧xs[k]≤3:=by
 simp only [traceV,Bool.and_eq_true] at h
 have:=tvAll_at xs 0 k hk h.2
 simpa [tvAt,hp,isAtomB] using this
theorem traceV_odd {xs:List Int} (h:traceV xs=true) (k:Nat) (hk:k<xs.length) (hp:¬k%2=0):16≤xs[k]∧xs[k]≤18:=by
 simp only [traceV,Bool.and_eq_true] at h
 have:=tvAll_at xs 0 k hk h.2
 simpa [tvAt,hp,isActB] using this
theorem traceV_len {xs:List Int} (h:traceV xs=true):xs.length%2=1∧xs.length≤41:=by
 simp only [traceV,Bool.and_eq_true,decide_eq_true_eq] at h
 exact h.1
theorem isAtom_any (n:Int) (w:World) :
  Calls Tryz.prog 184 #[.int .i64 n] w fun e w'=>e=.returned (.bool (isAtomB n))∧w=w':=by
 go_enter Tryz.func184,Tryz.ntmps184
 by_cases h1:0≤n
 ·by_cases h2:n≤3
  ·go_wp2
   go_ret
   exact ⟨ret_bool (by simp [isAtomB,h1,h2]),rfl⟩
  ·go_wp2
   go_ret
   exact ⟨ret_bool (by simp [isAtomB];omega),rfl⟩
 ·go_wp2
  go_ret
  exact ⟨ret_bool (by simp [isAtomB];omega),rfl⟩
theorem impl_TraceValid (lo hi:Nat) (v:Value) (xs:List Int) (w:World) (hx:SlI lo hi w v xs) (hm:xs.length≤1048576) :
  Calls Tryz.prog 142 #[v] w fun e w'=>e=.returned (.bool (traceV xs))∧w=w':=by
 obtain ⟨a,cap,rfl,hcap,hcm,hc⟩:=hx.open
 clear hx hcm hcap
 by_cases h1:xs.length%2=1
 ·have h1':((xs.length:Int)%2 !=1)=false:=by simp;omega
  by_cases h2:xs.length≤41
  ·have H1:=H_ h1
   clear h1
   go_enter Tryz.func142,Tryz.ntmps142
   go_wp2
   go_loop [16] (fun i=>∃ k:Nat,k≤xs.length∧i=.int .i64 k∧Hid (tvAll k (xs.drop k)=tvAll 0 xs)) (fun i=>xs.length-(intOf i).toNat)
   case atStart=>exact ⟨0,by omega,rfl,H_ rfl⟩
   case round=>
    obtain ⟨k,hk,rfl,HT⟩:=hrel
    by_cases hlt:k<xs.length
    ·obtain ⟨b,off,rfl,_,_,_,hcell⟩:=hc k hlt
     have HS:=H_ (tvAll_step xs k hlt)
     clear hc
     by_cases hp:k%2=0
     ·have hp1:((k:Int)%2==0)=true:=by simp;omega
      have hp2:((k:Int)%2==1)=false:=by simp;omega
      have HP:=H_ hp
      clear hp
      cases hv:isAtomB xs[k]
      ·go_wp2_with (go_at_call 184;refine (isAtom_any _ _).mono ?_;rintro e w' ⟨rfl,rfl⟩)
       go_ret
       exact ⟨ret_bool (by simp [traceV,←HT.out,HS.out,tvAt,HP.out,hv]),rfl⟩
      ·go_wp2_with (go_at_call 184;refine (isAtom_any _ _).mono ?_;rintro e w' ⟨rfl,rfl⟩)
       go_round
       case rel=>exact ⟨k+1,by omega,by go_num,H_ (by rw [←HT.out,HS.out];simp [tvAt,HP.out,hv])⟩
       case measure=>simp [intOf];omega
     ·have hp1:((k:Int)%2==0)=false:=by simp;omega
      have hp2:((k:Int)%2==1)=true:=by simp;omega
      have HP:=H_ hp
      clear hp
      cases hv:isActB xs[k]
      ·go_wp2_with (go_at_call 176;refine (isAct_any _ _).mono ?_;rintro e w' ⟨rfl,rfl⟩)
       go_ret
       exact ⟨ret_bool (by simp [traceV,←HT.out,HS.out,tvAt,HP.out,hv]),rfl⟩
      ·go_wp2_with (go_at_call 176;refine (isAct_any _ _).mono ?_;rintro e w' ⟨rfl,rfl⟩)
       go_round
       case rel=>exact ⟨k+1,by omega,by go_num,H_ (by rw [←HT.out,HS.out];simp [tvAt,HP.out,hv])⟩
       case measure=>simp [intOf];omega
    ·go_wp2
     go_ret
     exact ⟨ret_bool (by simp [traceV,←HT.out,tvAll_end xs k (by omega),H1.out,h2]),rfl⟩
  ·go_enter Tryz.func142,Tryz.ntmps142
   go_wp2
   go_ret
   exact ⟨ret_bool (by simp [traceV];omega),rfl⟩
 ·have h1':((xs.length:Int)%2 !=1)=true:=by simp;omega
  go_enter Tryz.func142,Tryz.ntmps142
  go_wp2
  go_ret
  exact ⟨ret_bool (by simp [traceV];omega),rfl⟩
theorem tvSpec (xs:List Int) (k:Nat) (h:k<xs.length) (hp:k%2=0):tvAt k xs[k]=inB xs[k] 0 3:=by
 simp [tvAt,hp,isAtomB,inB]
theorem tvSpec' (xs:List Int) (k:Nat) (h:k<xs.length) (hp:¬k%2=0):tvAt k xs[k]=inB xs[k] 16 18:=by
 simp [tvAt,hp,isActB,inB]
theorem spec_TraceValid (lo hi:Nat) (v:Value) (xs:List Int) (w:World) (hx:SlI lo hi w v xs) (hm:xs.length≤1048576) :
  Calls Tryz.prog 116 #[v] w fun e w'=>e=.returned (.bool (traceV xs))∧w=w':=by
 obtain ⟨a,cap,rfl,hcap,hcm,hc⟩:=hx.open
 clear hx hcm hcap
 go_enter Tryz.func116,Tryz.ntmps116
 go_wp2
 go_loop [3] (fun i=>∃ k:Nat,k≤xs.length∧i=.int .i64 k∧Hid (tvAll k (xs.drop k)=tvAll 0 xs)) (fun i=>xs.length-(intOf i).toNat)
 case atStart=>exact ⟨0,by omega,rfl,H_ rfl⟩
 case round=>
  obtain ⟨k,hk,rfl,HT⟩:=hrel
  by_cases hlt:k<xs.length
  ·obtain ⟨b,off,rfl,_,_,_,hcell⟩:=hc k hlt
   have HS:=H_ (tvAll_step xs k hlt)
   clear hc
   by_cases hp:k%2=0
   ·have hp1:((k:Int)%2==0)=true:=by simp;omega
    have hp2:((k:Int)%2==1)=false:=by simp;omega
    have HV:=H_ (tvSpec xs k hlt hp)
    clear hp
    cases hv:inB xs[k] 0 3
    ·go_wp2_with (go_at_call 101;refine (l1In_any _ _ _ _).mono ?_;rintro e w' ⟨rfl,rfl⟩)
     go_ret
     exact ⟨ret_bool (by simp [traceV,←HT.out,HS.out,HV.out,hv]),rfl⟩
    ·go_wp2_with (go_at_call 101;refine (l1In_any _ _ _ _).mono ?_;rintro e w' ⟨rfl,rfl⟩)
     go_round
     case rel=>exact ⟨k+1,by omega,by go_num,H_ (by rw [←HT.out,HS.out];simp [HV.out,hv])⟩
     case measure=>simp [intOf];omega
   ·have hp1:((k:Int)%2==0)=false:=by simp;omega
    have hp2:((k:Int)%2==1)=true:=by simp;omega
    have HV:=H_ (tvSpec' xs k hlt hp)
    clear hp
    cases hv:inB xs[k] 16 18
    ·go_wp2_with (go_at_call 101;refine (l1In_any _ _ _ _).mono ?_;rintro e w' ⟨rfl,rfl⟩)
     go_ret
     exact ⟨ret_bool (by simp [traceV,←HT.out,HS.out,HV.out,hv]),rfl⟩
    ·go_wp2_with (go_at_call 101;refine (l1In_any _ _ _ _).mono ?_;rintro e w' ⟨rfl,rfl⟩)
     go_round
     case rel=>exact ⟨k+1,by omega,by go_num,H_ (by rw [←HT.out,HS.out];simp [HV.out,hv])⟩
     case measure=>simp [intOf];omega
  ·have HE:=H_ (tvAll_end xs k (by omega))
   by_cases h1:xs.length%2=1
   ·have h1':((xs.length:Int)%2==1)=true:=by simp;omega
    have H1:=H_ h1
    clear h1
    by_cases h2:xs.length≤41
    all_goals
     go_wp2
     go_ret
     exact ⟨ret_bool (by simp [traceV,←HT.out,HE.out,H1.out];omega),rfl⟩
   ·have h1':((xs.length:Int)%2==1)=false:=by simp;omega
    go_wp2
    go_ret
    exact ⟨ret_bool (by simp [traceV];omega),rfl⟩
def trByte (i:Nat) (x:Int):UInt8:=UInt8.ofNat (if i%2=0 then 48+x else 81+x).toNat
def trGo:Nat→List Int→List UInt8
 | _,[]=>[]
 | i,x :: r=>trByte i x :: trGo (i+1) r
def trText (xs:List Int):List UInt8:=if traceV xs then trGo 0 xs else []
theorem trGo_snoc (ys:List Int) (x:Int):∀ i,trGo i (ys++[x])=trGo i ys++[trByte (i+ys.length) x]:=by
 induction ys with
 | nil=>intro i;simp [trGo]
 | cons y r ih=>intro i;simp only [List.cons_append,trGo,ih,List.length_cons];rw [show i+1+r.length=i+(r.length+1) by omega]
theorem trGo_take (xs:List Int) (k:Nat) (h:k<xs.length):trGo 0 (xs.take (k+1))=trGo 0 (xs.take k)++[trByte k xs[k]]:=by
 rw [List.take_add_one,List.getElem?_eq_getElem h,Option.toList_some,trGo_snoc,List.length_take,Nat.zero_add,Nat.min_eq_left (by omega)]
theorem str_app (l m:List UInt8):(Value.string ({ data:=l.toArray }++{ data:=m.toArray }))=.string ⟨(l++m).toArray⟩:=by
 rw [ByteArray.mk_append_mk]
theorem convTr (w:World) (n:Int):Sem.run Tryz.prog (convert 40 9 (.slice (some ⟨w.heap.size,0,none⟩) 1 1)) (w.alloc (.cells #[.int .u8 n] 5)) =
    .ok (.string ⟨[UInt8.ofNat n.toNat].toArray⟩) (w.alloc (.cells #[.int .u8 n] 5)):=by
  have h:=run_convert_bytes_arg (P:=Tryz.prog) (w:=w.alloc (.cells #[.int .u8 n] 5)) 40 5 Tryz.underlying40 Tryz.underlying5 w.heap.size 0 1 1 [n] rfl
    (by intro i hi; obtain rfl : i = 0 := by omega
        rw [World.cell?,heap_alloc_new];rfl) 9 Tryz.underlying9
  exact h
theorem spec_TraceText (lo hi:Nat) (v:Value) (xs:List Int) (w:World) (hx:SlI lo hi w v xs) (hm:xs.length≤1048576) (hhi:hi≤w.heap.size) :
  Calls Tryz.prog 60 #[v] w fun e w'=>e=.returned (.string ⟨(trText xs).toArray⟩)∧Below w.heap.size w w':=by
 have hx0:=hx
 obtain ⟨a,cap,rfl,hcap,hcm,hc⟩:=hx.open
 clear hx hcm hcap hc
 cases hv:traceV xs
 ·have HX:=H_ hx0
  clear hx0
  go_enter Tryz.func60,Tryz.ntmps60
  go_wp2
  refine wp_loop_once ?_
  by_cases hl:0<xs.length
  all_goals
   go_wp2_with (go_at_call 116;refine (spec_TraceValid _ _ _ xs _ HX.out hm).mono ?_;rintro e w' ⟨rfl,rfl⟩)
   go_ret
   exact ⟨ret_str (a:=[]) (by simp [trText,hv]),B_ _ _⟩
 ·go_enter Tryz.func60,Tryz.ntmps60
  go_wp2
  go_loopw [3,4] (fun s i wr=>∃ k:Nat,∃ l:List UInt8,k≤xs.length∧i=.int .i64 k∧s=.string ⟨l.toArray⟩∧l.length≤k∧Hid (l=trGo 0 (xs.take k))∧Below w.heap.size w wr) (fun _ i _=>xs.length-(intOf i).toNat)
  case atStart=>exact ⟨0,[],by omega,rfl,rfl,le_ _,H_ rfl,B_ _ _⟩
  case round=>
   obtain ⟨k,l,hk,rfl,rfl,hll,HL,hb⟩:=hrel
   have hx1:=hx0.below hb hhi
   by_cases hlt:k<xs.length
   ·obtain ⟨b,off,rfl,_,_,hbs,hcell⟩:=hx1.get k hlt
    have HX:=H_ hx1
    have hcv:=fun n=>convTr wr n
    have HB:=H_ (fun o=>hb.alloc hb.size o)
    clear hx0 hx1 hb
    by_cases hp:k%2=0
    ·have hp1:((k:Int)%2==0)=true:=by simp;omega
     obtain ⟨hr1,hr2⟩:=traceV_even hv k hlt hp
     have HT:=H_ (show trByte k xs[k]=UInt8.ofNat (48+xs[k]).toNat by simp [trByte,hp])
     clear hp
     go_wp2_with (go_at_call 116;refine (spec_TraceValid _ _ _ xs _ HX.out hm).mono ?_;rintro e w' ⟨rfl,rfl⟩)
     go_roundw
     case rel=>exact ⟨k+1,l++[UInt8.ofNat (48+xs[k]).toNat],by omega,by go_num,str_app _ _,by simp;omega,H_ (by rw [trGo_take xs k hlt,HL.out,HT.out]),HB.out _⟩
     case measure=>simp [intOf];omega
    ·have hp1:((k:Int)%2==0)=false:=by simp;omega
     obtain ⟨hr1,hr2⟩:=traceV_odd hv k hlt hp
     have HT:=H_ (show trByte k xs[k]=UInt8.ofNat (97+xs[k]-16).toNat by simp [trByte,hp];congr 2;omega)
     clear hp
     go_wp2_with (go_at_call 116;refine (spec_TraceValid _ _ _ xs _ HX.out hm).mono ?_;rintro e w' ⟨rfl,rfl⟩)
     go_roundw
     case rel=>exact ⟨k+1,l++[UInt8.ofNat (97+xs[k]-16).toNat],by omega,by go_num,str_app _ _,by simp;omega,H_ (by rw [trGo_take xs k hlt,HL.out,HT.out]),HB.out _⟩
     case measure=>simp [intOf];omega
   ·obtain rfl:k=xs.length:=by omega
    have HX:=H_ hx1
    clear hx0 hx1
    go_wp2
    go_ret
    exact ⟨ret_str (by rw [HL.out,List.take_length];simp [trText,hv]),hb⟩
end Go.Proofs.YtfnnhimopokpnaaGreatDoor
