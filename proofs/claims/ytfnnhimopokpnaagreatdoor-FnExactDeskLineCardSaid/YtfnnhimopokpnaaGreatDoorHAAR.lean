/- Lemmas for this seat; no condition. -/
import Derived.Test.YtfnnhimopokpnaaGreatDoorHAAP
import Derived.Test.YtfnnhimopokpnaaGreatDoorHAAQ
namespace Go.Proofs.YtfnnhimopokpnaaGreatDoor
open Go.RowKit
set_option maxRecDepth 100000
set_option maxHeartbeats 0
set_option linter.unusedVariables false
def noneT:List UInt8:=[110,111,110,101]
def yesT:List UInt8:=[121,101,115]
def noT:List UInt8:=[110,111]
def openT:List UInt8:=[111,112,101,110]
def whatT:List UInt8:=[119,104,97,116]
def eqT (i:Int):List UInt8:=if i=1 then yesT else if i=0 then noT else openT
def prfT:List Mv→List UInt8
 | []=>noneT
 | m :: r=>r.foldl (fun s x=>s++44 :: mvText x) (mvText m)
def difT:Option (List Int)→List UInt8
 | some t=>trText t
 | none=>noneT
noncomputable def askV (D:Dsk) (l:List UInt8):List UInt8:=
 if l=[110,111,119] then katTxt D.now
 else if l=[102,105,114,115,116] then katTxt D.first
 else if l=[103,111,97,108] then katTxt D.goal
 else if l=[109,111,118,101,115] then dig2 D.made.length
 else if l=[100,111,110,101] then (if eqL D.now D.goal then yesT else noT)
 else if l=[101,113,117,97,108] then eqT (equalV D.now D.goal)
 else if l=[101,110,100,115] then testT (endsK (treeOf D.now))
 else if l=[116,114,97,99,101] then difT (differV D.now D.goal)
 else if l=[112,114,111,111,102] then prfT D.made
 else whatT
structure NoQ (l:List UInt8):Prop where
 q1:l≠[110,111,119]
 q2:l≠[102,105,114,115,116]
 q3:l≠[103,111,97,108]
 q4:l≠[109,111,118,101,115]
 q5:l≠[100,111,110,101]
 q6:l≠[101,113,117,97,108]
 q7:l≠[101,110,100,115]
 q8:l≠[116,114,97,99,101]
 q9:l≠[112,114,111,111,102]
theorem askV_what {D:Dsk} {l:List UInt8} (h:NoQ l):askV D l=whatT:=by
 unfold askV
 rw [if_neg h.q1,if_neg h.q2,if_neg h.q3,if_neg h.q4,if_neg h.q5,if_neg h.q6,if_neg h.q7,if_neg h.q8,if_neg h.q9]
theorem quest (l:List UInt8):l=[110,111,119]∨l=[102,105,114,115,116]∨l=[103,111,97,108]∨l=[109,111,118,101,115]∨l=[100,111,110,101]∨l=[101,113,117,97,108]∨l=[101,110,100,115]∨l=[116,114,97,99,101]∨l=[112,114,111,111,102]∨NoQ l:=by
 by_cases h1:l=[110,111,119]
 ·exact .inl h1
 by_cases h2:l=[102,105,114,115,116]
 ·exact .inr (.inl h2)
 by_cases h3:l=[103,111,97,108]
 ·exact .inr (.inr (.inl h3))
 by_cases h4:l=[109,111,118,101,115]
 ·exact .inr (.inr (.inr (.inl h4)))
 by_cases h5:l=[100,111,110,101]
 ·exact .inr (.inr (.inr (.inr (.inl h5))))
 by_cases h6:l=[101,113,117,97,108]
 ·exact .inr (.inr (.inr (.inr (.inr (.inl h6)))))
 by_cases h7:l=[101,110,100,115]
 ·exact .inr (.inr (.inr (.inr (.inr (.inr (.inl h7))))))
 by_cases h8:l=[116,114,97,99,101]
 ·exact .inr (.inr (.inr (.inr (.inr (.inr (.inr (.inl h8)))))))
 by_cases h9:l=[112,114,111,111,102]
 ·exact .inr (.inr (.inr (.inr (.inr (.inr (.inr (.inr (.inl h9))))))))
 exact .inr (.inr (.inr (.inr (.inr (.inr (.inr (.inr (.inr ⟨h1,h2,h3,h4,h5,h6,h7,h8,h9⟩))))))))
def okT (b:Bool):List UInt8:=if b then [111,107] else [110,111]
noncomputable def lineV (D:Dsk) (l:List UInt8):Dsk × List UInt8:=
 match readAc l with
 | some A=>((deskDo D A).1,okT (deskDo D A).2)
 | none=>(D,askV D l)
noncomputable def lineX (D:Dsk) (l:List UInt8):Dsk × List UInt8:=if deskV D then lineV D l else (Dsk.none,[])
theorem containsI (lo hi:Nat) (v:Value) (xs:List Int) (x:Int) (w:World) (hx:SlI lo hi w v xs) (hm:xs.length≤1048576) :
  Calls Tryz.prog 203 #[v,.int .i64 x] w fun e w'=>e=.returned (.bool (decide (x∈xs)))∧w=w':=by
 have HC:Hid (Calls Tryz.prog 227 #[v,.int .i64 x] w fun e w'=>∃ n:Int,e=.returned (.int .i64 n)∧(0≤n↔x∈xs)∧w=w'):=by
  apply H_
  obtain ⟨a,cap,rfl,hcap,hcm,_⟩:=hx.open
  have HX:=H_ hx
  clear hx hcm hcap
  go_enter Tryz.func227,Tryz.ntmps227
  go_wp2
  go_loop [8] (fun i=>∃ k:Nat,k≤xs.length∧i=.int .i64 k∧Hid (∀ j (h1:j<k) (h2:j<xs.length),xs[j]≠x)) (fun i=>xs.length-(intOf i).toNat)
  case atStart=>exact ⟨0,by omega,rfl,H_ (by intro j h;omega)⟩
  case round=>
   obtain ⟨k,hk,rfl,HN⟩:=hrel
   by_cases hlt:k<xs.length
   ·obtain ⟨b,off,rfl,_,_,_,hcell⟩:=HX.out.get k hlt
    cases hq:x==xs[k]
    ·go_wp2
     go_round
     case rel=>
      refine ⟨k+1,by omega,by go_num,H_ ?_⟩
      intro j h1 h2
      by_cases hj:j<k
      ·exact HN.out j hj h2
      ·obtain rfl:j=k:=by omega
       intro e
       rw [e] at hq
       simp at hq
     case measure=>simp [intOf];omega
    ·have e:x=xs[k]:=by simpa using hq
     have hmem:x∈xs:=by
      rw [e]
      exact List.getElem_mem hlt
     have HI:Hid ((0:Int)≤(k:Int)↔x∈xs):=H_ ⟨fun _=>hmem,fun _=>by omega⟩
     clear e hmem
     go_wp2
     go_ret
     exact ⟨_,rfl,HI.out,rfl⟩
   ·have hno:¬x∈xs:=by
     intro h
     obtain ⟨j,hj,e⟩:=List.getElem_of_mem h
     exact HN.out j (by omega) hj e
    have HI:Hid ((0:Int)≤-1↔x∈xs):=H_ ⟨fun h=>absurd h (by omega),fun h=>absurd h hno⟩
    clear hno
    go_wp2
    go_ret
    exact ⟨_,rfl,HI.out,rfl⟩
 obtain ⟨a,cap,rfl,_,_,_⟩:=hx.open
 clear hx
 go_enter Tryz.func203,Tryz.ntmps203
 go_wp2_with fail
 refine HC.out.mono ?_
 rintro e _ ⟨n,rfl,hn,rfl⟩
 have HN:=H_ hn
 clear hn HC
 go_wp2
 go_ret
 have h2:decide (0≤n)=decide (x∈xs):=decide_eq_decide.2 HN.out
 exact ⟨by rw [←h2];rfl,rfl⟩
section
set_option linter.unusedSimpArgs false
def txtB (t:KT) (S:List Int):List UInt8:=if t.root∈S then [40]++txtK t 1++[41] else txtK t 1
theorem txtB_2 {t:KT} (h:t.ok 0=true):txtK t 2=txtB t [20]:=by
 cases t with
 | leaf n=>
  simp only [KT.ok,Bool.and_eq_true,decide_eq_true_eq] at h
  rw [txtB,if_neg (by simp [KT.root];omega)]
  rfl
 | star t=>rw [txtB,if_neg (by simp [KT.root])];rfl
 | bin p a b=>cases p<;>simp [txtB,KT.root,KT.op,txt_or1,txt_or2,txt_seq1,txt_seq2]
theorem txtB_3 {t:KT} (h:t.ok 0=true):txtK t 3=txtB t [20,19]∧txtK t 3=txtB t [19,20]:=by
 cases t with
 | leaf n=>
  simp only [KT.ok,Bool.and_eq_true,decide_eq_true_eq] at h
  rw [txtB,txtB,if_neg (by simp [KT.root];omega),if_neg (by simp [KT.root];omega)]
  exact ⟨rfl,rfl⟩
 | star t=>rw [txtB,txtB,if_neg (by simp [KT.root]),if_neg (by simp [KT.root])];exact ⟨rfl,rfl⟩
 | bin p a b=>cases p<;>simp [txtB,KT.root,KT.op,txt_or1,txt_or3,txt_seq1,txt_seq3]
def TxC (t:KT):Prop:=∀ (lo:Nat) (p:Value) (w:World),RT lo none w t p→t.ok 0=true→t.size≤40→MapT w →
 Calls Tryz.prog 133 #[p] w fun e w'=>e=.returned (.string ⟨(txtK t 1).toArray⟩)∧Below w.heap.size w w'
theorem wrap_any (t:KT) (ht:TxC t) (lo lo' hi':Nat) (p v:Value) (S:List Int) (w:World) (hp:RT lo none w t p) (hok:t.ok 0=true) (hs:t.size≤40) (hM:MapT w) (hx:SlI lo' hi' w v S) (hm:S.length≤100) :
  Calls Tryz.prog 177 #[p,v] w fun e w'=>e=.returned (.string ⟨(txtB t S).toArray⟩)∧Below w.heap.size w w':=by
 have HC:=H_ (ht lo p w hp hok hs hM)
 have hb1:(txtK t 1).length≤199:=txt_short hok hs 1 (by omega)
 obtain ⟨ps,⟨b,kv,rfl,_,_,hblk,_⟩,_⟩:=hp.node
 obtain ⟨a,cap,rfl,_,_⟩:=Sl.shape hx
 have HX:=H_ hx
 have c0:=hblk.cell 0
 clear hx ht hp
 by_cases hin:t.root∈S
 ·have HT:=H_ (show txtB t S=[40]++txtK t 1++[41] by rw [txtB,if_pos hin])
  have hd:=decide_eq_true hin
  go_enter Tryz.func177,Tryz.ntmps177
  go_wp2_with fail
  refine (containsI _ _ _ S t.root w HX.out (by omega)).mono ?_
  rintro e w1 ⟨rfl,rfl⟩
  rw [hd]
  go_wp2_with fail
  refine HC.out.mono ?_
  rintro e w2 ⟨rfl,hb⟩
  have HB:=H_ hb
  clear hb
  go_wp2
  go_ret
  exact ⟨by rw [HT.out,←cat2,←cat2];rfl,HB.out⟩
 ·have HT:=H_ (show txtB t S=txtK t 1 by rw [txtB,if_neg hin])
  have hd:=decide_eq_false hin
  go_enter Tryz.func177,Tryz.ntmps177
  go_wp2_with fail
  refine (containsI _ _ _ S t.root w HX.out (by omega)).mono ?_
  rintro e w1 ⟨rfl,rfl⟩
  rw [hd]
  go_wp2_with fail
  refine HC.out.mono ?_
  rintro e w2 ⟨rfl,hb⟩
  have HB:=H_ hb
  clear hb
  go_wp2
  go_ret
  exact ⟨by rw [HT.out];rfl,HB.out⟩
theorem text_leaf (n:Int):TxC (.leaf n):=by
 intro lo p w hp hok hs hM
 obtain ⟨ps,⟨b,kv,rfl,_,_,hblk,_⟩,_⟩:=hp.node
 have c0:w.cell? ⟨b,0,none⟩=some (.int .i64 n):=hblk.cell 0
 simp only [KT.ok,Bool.and_eq_true,decide_eq_true_eq] at hok
 obtain ⟨hn0,hn18⟩:=hok
 clear hp
 by_cases h15:n≤15
 ·obtain ⟨m,rfl⟩:∃ m:Nat,n=m:=⟨n.toNat,by omega⟩
  have HT:=H_ (show txtK (.leaf (m:Int)) 1=testT m by rw [txt_leaf,if_pos h15];rfl)
  have hia:isActB (m:Int)=false:=by simp [isActB];omega
  have q1:((m:Int)==19)=false:=by simp;omega
  have q2:((m:Int)==20)=false:=by simp;omega
  have q3:((m:Int)==21)=false:=by simp;omega
  have HM:=H_ hM
  clear hM
  go_enter Tryz.func133,Tryz.ntmps133
  go_wp2_with fail
  refine (isAct_any _ w).mono ?_
  rintro e w1 ⟨rfl,rfl⟩
  rw [hia]
  go_wp2_with fail
  refine (impl_TestText m (by omega) w HM.out).mono ?_
  rintro e w1 ⟨rfl,rfl⟩
  go_wp2
  go_ret
  exact ⟨by rw [HT.out];rfl,B_ _ _⟩
 ·have h3:n=16∨n=17∨n=18:=by omega
  clear hM h15
  rcases h3 with rfl|rfl|rfl
  all_goals (
   go_enter Tryz.func133,Tryz.ntmps133
   go_wp2_with fail
   refine (isAct_any _ w).mono ?_
   rintro e w1 ⟨rfl,rfl⟩
   go_wp2
   go_ret
   exact ⟨rfl,B_ _ _⟩)
theorem text_star (x:KT) (ih:TxC x):TxC (.star x):=by
 intro lo p w hp hok hs hM
 have hokx:x.ok 0=true:=hok
 simp only [KT.size] at hs
 have hb3:(txtK x 3).length≤199:=txt_short hokx (by omega) 3 (by omega)
 have HT:=H_ (show txtK (.star x) 1=txtB x [19,20]++[42] by rw [txt_star,(txtB_3 hokx).2])
 have hbl:(txtB x [19,20]).length≤199:=by rw [←(txtB_3 hokx).2];exact hb3
 obtain ⟨ps,⟨b,kv,rfl,_,_,hblk,a,cap,rfl,hpc,hcm,hkid⟩,hstk⟩:=hp.node
 have hpl:=hstk.length
 simp only [KT.kids,List.length_cons,List.length_nil] at hpl
 obtain ⟨u0,rfl⟩:∃ u0,ps=[u0]:=by
  match ps,hpl with
  | [x],_=>exact ⟨x,rfl⟩
 obtain ⟨gk,ok,rfl,_,_,hgk,kc0⟩:=hkid 0 (by simp)
 have hu:RT lo none w x u0:=hstk.1
 have c0:w.cell? ⟨b,0,none⟩=some (.int .i64 21):=hblk.cell 0
 have c1:w.cell? ⟨b,1,none⟩=some (.slice (some ⟨gk,ok,none⟩) 1 cap):=hblk.cell 1
 have kc:w.cell? ⟨gk,ok,none⟩=some u0:=kc0
 have hb1:=al_below w (.cells #[.int .i64 19,.int .i64 20] 3)
 have HC:=H_ (wrap_any x ih lo w.heap.size (w.heap.size+1) u0 (.slice (some ⟨w.heap.size,0,none⟩) 2 2) [19,20] (w.alloc (.cells #[.int .i64 19,.int .i64 20] 3)) (hu.below hb1) hokx (by omega) (hM.below hb1)
  (Own.sl (Own.lit 1 3 w (ints [19,20]) 2 (by omega) rfl)) (by simp))
 have HB1:=H_ hb1
 clear hp hM hu hstk hkid hblk kc0 hb1
 have q1:isActB 21=false:=by decide
 go_enter Tryz.func133,Tryz.ntmps133
 go_wp2_with fail
 refine (isAct_any _ w).mono ?_
 rintro e w1 ⟨rfl,rfl⟩
 rw [q1]
 go_wp2_with fail
 refine HC.out.mono ?_
 rintro e w2 ⟨rfl,hb⟩
 have HB:=H_ (HB1.out.trans (hb.mono (by rw [alloc_size];omega)))
 clear hb
 go_wp2
 go_ret
 exact ⟨by rw [HT.out,←cat2];rfl,HB.out⟩
end
section
set_option linter.unusedSimpArgs false
theorem text_seq (x y:KT) (ihx:TxC x) (ihy:TxC y):TxC (.bin false x y):=by
 intro lo p w hp hok hs hM
 simp only [KT.ok,Bool.and_eq_true] at hok
 obtain ⟨hokx,hoky⟩:=hok
 simp only [KT.size] at hs
 have hbx:(txtB x [20]).length≤199:=by rw [←txtB_2 hokx];exact txt_short hokx (by omega) 2 (by omega)
 have hby:(txtB y [20,19]).length≤199:=by rw [←(txtB_3 hoky).1];exact txt_short hoky (by omega) 3 (by omega)
 have HT:=H_ (show txtK (.bin false x y) 1=txtB x [20]++[59]++txtB y [20,19] by rw [txt_seq1,txtB_2 hokx,(txtB_3 hoky).1];simp)
 obtain ⟨ps,⟨b,kv,rfl,_,_,hblk,a,cap,rfl,hpc,hcm,hkid⟩,hstk⟩:=hp.node
 have hpl:=hstk.length
 simp only [KT.kids,List.length_cons,List.length_nil] at hpl
 obtain ⟨u0,u1,rfl⟩:∃ u0 u1,ps=[u0,u1]:=by
  match ps,hpl with
  | [x,y],_=>exact ⟨x,y,rfl⟩
 obtain ⟨gk,ok,rfl,_,_,hgk,kc0⟩:=hkid 0 (by simp)
 obtain ⟨gk',ok',e1,_,_,_,kc1⟩:=hkid 1 (by simp)
 injection e1 with e1
 injection e1 with e1 e2
 subst e1 e2
 have HU0:=H_ hstk.1
 have HU1:=H_ hstk.2.1
 have HMT:=H_ hM
 have HW0:Hid (∀ (w':World) (lo' hi':Nat) (v:Value),Below w.heap.size w w'→SlI lo' hi' w' v [20]→Calls Tryz.prog 177 #[u0,v] w' fun e w2=>e=.returned (.string ⟨(txtB x [20]).toArray⟩)∧Below w'.heap.size w' w2):=
  H_ fun w' lo' hi' v hb hr=>wrap_any x ihx lo lo' hi' u0 v [20] w' (RT.below HU0.out hb) hokx (by omega) (hM.below hb) hr (by simp)
 have HW1:Hid (∀ (w':World) (lo' hi':Nat) (v:Value),Below w.heap.size w w'→SlI lo' hi' w' v [20,19]→Calls Tryz.prog 177 #[u1,v] w' fun e w2=>e=.returned (.string ⟨(txtB y [20,19]).toArray⟩)∧Below w'.heap.size w' w2):=
  H_ fun w' lo' hi' v hb hr=>wrap_any y ihy lo lo' hi' u1 v [20,19] w' (RT.below HU1.out hb) hoky (by omega) (hM.below hb) hr (by simp)
 have hgs:∀ w',Below w.heap.size w w'→w'.cell? ⟨b,0,none⟩=some (.int .i64 19)∧w'.cell? ⟨b,1,none⟩=some (.slice (some ⟨gk,ok,none⟩) 2 cap)∧w'.cell? ⟨gk,ok,none⟩=some u0∧w'.cell? ⟨gk,ok+1,none⟩=some u1:=fun w' hb=>
  ⟨(hblk.below hb hblk.lt).cell 0,(hblk.below hb hblk.lt).cell 1,(hb.cell (p:=⟨gk,ok,none⟩) hgk).trans kc0,(hb.cell (p:=⟨gk,ok+1,none⟩) hgk).trans kc1⟩
 obtain ⟨c0,c1,kc0',kc1'⟩:=hgs w (B_ _ _)
 have HGS:=H_ hgs
 have q1:isActB 19=false:=by decide
 have hbA:Below w.heap.size w ((w.alloc (.cells #[.int .i64 20] 3)).drew):=Below.drew (al_below _ _)
 have hbB:Below w.heap.size w (((w.alloc (.cells #[.int .i64 20] 3)).alloc (.cells #[.int .i64 20,.int .i64 19] 3)).drew):=Below.drew ((al_below w _).alloc (by simp) _)
 have hbC:Below w.heap.size w (((w.alloc (.cells #[.int .i64 20,.int .i64 19] 3)).alloc (.cells #[.int .i64 20] 3)).drew):=Below.drew ((al_below w _).alloc (by simp) _)
 have hrA:SlI w.heap.size (w.heap.size+1) ((w.alloc (.cells #[.int .i64 20] 3)).drew) (.slice (some ⟨w.heap.size,0,none⟩) 1 1) [20]:=Own.sl (Own.lit 1 3 w (ints [20]) 1 (by omega) rfl)
 have hzB:(((w.alloc (.cells #[.int .i64 20] 3)).alloc (.cells #[.int .i64 20,.int .i64 19] 3)).drew).heap.size=w.heap.size+2:=by show ((w.alloc _).alloc _).heap.size=_;simp
 have hzC:(((w.alloc (.cells #[.int .i64 20,.int .i64 19] 3)).alloc (.cells #[.int .i64 20] 3)).drew).heap.size=w.heap.size+2:=by show ((w.alloc _).alloc _).heap.size=_;simp
 have hrB1:SlI w.heap.size (w.heap.size+1) (((w.alloc (.cells #[.int .i64 20] 3)).alloc (.cells #[.int .i64 20,.int .i64 19] 3)).drew) (.slice (some ⟨w.heap.size,0,none⟩) 1 1) [20]:=by
  have h:Own 1 w.heap.size (w.heap.size+1) 3 ((w.alloc (.cells #[.int .i64 20] 3)).alloc (.cells #[.int .i64 20,.int .i64 19] 3)) (.slice (some ⟨w.heap.size,0,none⟩) 1 1) 1 (ints [20]):=Own.below (Own.lit 1 3 w (ints [20]) 1 (by omega) rfl) (al_below _ _) (by rw [alloc_size];exact le_ _)
  exact Own.sl h
 have hrB2:SlI (w.heap.size+1) (w.heap.size+1+1) (((w.alloc (.cells #[.int .i64 20] 3)).alloc (.cells #[.int .i64 20,.int .i64 19] 3)).drew) (.slice (some ⟨w.heap.size+1,0,none⟩) 2 2) [20,19]:=by
  have h:=Own.lit 1 3 (w.alloc (.cells #[.int .i64 20] 3)) (ints [20,19]) 2 (by omega) rfl
  rw [alloc_size] at h
  exact Own.sl h
 have hrC2:SlI w.heap.size (w.heap.size+1) (((w.alloc (.cells #[.int .i64 20,.int .i64 19] 3)).alloc (.cells #[.int .i64 20] 3)).drew) (.slice (some ⟨w.heap.size,0,none⟩) 2 2) [20,19]:=by
  have h:Own 1 w.heap.size (w.heap.size+1) 3 ((w.alloc (.cells #[.int .i64 20,.int .i64 19] 3)).alloc (.cells #[.int .i64 20] 3)) (.slice (some ⟨w.heap.size,0,none⟩) 2 2) 2 (ints [20,19]):=Own.below (Own.lit 1 3 w (ints [20,19]) 2 (by omega) rfl) (al_below _ _) (by rw [alloc_size];exact le_ _)
  exact Own.sl h
 have hrC1:SlI (w.heap.size+1) (w.heap.size+1+1) (((w.alloc (.cells #[.int .i64 20,.int .i64 19] 3)).alloc (.cells #[.int .i64 20] 3)).drew) (.slice (some ⟨w.heap.size+1,0,none⟩) 1 1) [20]:=by
  have h:=Own.lit 1 3 (w.alloc (.cells #[.int .i64 20,.int .i64 19] 3)) (ints [20]) 1 (by omega) rfl
  rw [alloc_size] at h
  exact Own.sl h
 have hSA:=hgs _ hbA
 have hSB:=hgs _ hbB
 have hSC:=hgs _ hbC
 have hSD:=hgs w.drew (Below.drew (B_ _ _))
 clear hp hM hstk hkid hblk hgs
 go_enter Tryz.func133,Tryz.ntmps133
 go_wp2_with fail
 refine (isAct_any _ w).mono ?_
 rintro e w1 ⟨rfl,rfl⟩
 rw [q1]
 go_upto_region 4 with fail
 first
 | (go_region_held_law (fun w'=>w'.cell? ⟨b,0,none⟩=some (.int .i64 19)∧w'.cell? ⟨b,1,none⟩=some (.slice (some ⟨gk,ok,none⟩) 2 cap)∧w'.cell? ⟨gk,ok,none⟩=some u0∧w'.cell? ⟨gk,ok+1,none⟩=some u1) (first | with_reducible assumption | go_keep) (first
  | ((have g_:=HR2);go_at_call 177;(with_reducible show Calls _ _ _ w2 _);refine (HW1.out w2 _ _ _ H2.out HR2.out).mono ?_;rintro e3 w3 ⟨rfl,h_⟩;(have h3:Below w.heap.size w w3:=H2.out.trans (h_.mono H2.out.size));(have hS3:=HGS.out w3 h3);(have H3:=H_ h3);clear h_ h3 g_)
  | ((have g_:=H2);go_at_call 177;(with_reducible show Calls _ _ _ (w2.alloc (.cells #[.int .i64 20,.int .i64 19] 3)) _);refine (HW1.out (w2.alloc (.cells #[.int .i64 20,.int .i64 19] 3)) _ _ _ (H2.out.alloc H2.out.size (.cells #[.int .i64 20,.int .i64 19] 3)) (Own.sl (Own.lit 1 3 w2 (ints [20,19]) 2 (by omega) rfl))).mono ?_;rintro e3 w3 ⟨rfl,h_⟩;(have h3:Below w.heap.size w w3:=(H2.out.alloc H2.out.size (.cells #[.int .i64 20,.int .i64 19] 3)).trans (h_.mono (H2.out.alloc H2.out.size (.cells #[.int .i64 20,.int .i64 19] 3)).size));(have hS3:=HGS.out w3 h3);(have H3:=H_ h3);clear h_ h3 g_)
  | (go_at_call 177;(with_reducible show Calls _ _ _ ((w.alloc (.cells #[.int .i64 20] 3)).drew) _);refine (HW0.out ((w.alloc (.cells #[.int .i64 20] 3)).drew) _ _ _ hbA hrA).mono ?_;rintro e2 w2 ⟨rfl,h_⟩;(have h2:Below w.heap.size w w2:=hbA.trans (h_.mono hbA.size));(have hS2:=HGS.out w2 h2);(have hSN2:=HGS.out (w2.alloc (.cells #[.int .i64 20,.int .i64 19] 3)) (h2.alloc h2.size (.cells #[.int .i64 20,.int .i64 19] 3)));(have H2:=H_ h2);clear h_ h2)
  | (go_at_call 177;(with_reducible show Calls _ _ _ (((w.alloc (.cells #[.int .i64 20] 3)).alloc (.cells #[.int .i64 20,.int .i64 19] 3)).drew) _);refine (HW0.out (((w.alloc (.cells #[.int .i64 20] 3)).alloc (.cells #[.int .i64 20,.int .i64 19] 3)).drew) _ _ _ hbB hrB1).mono ?_;rintro e2 w2 ⟨rfl,h_⟩;(have h2:Below w.heap.size w w2:=hbB.trans (h_.mono hbB.size));(have hS2:=HGS.out w2 h2);(have hSN2:=HGS.out (w2.alloc (.cells #[.int .i64 20,.int .i64 19] 3)) (h2.alloc h2.size (.cells #[.int .i64 20,.int .i64 19] 3)));(have H2:=H_ h2);(have HR2:=H_ ((hrB2.below h_ (by show w.heap.size+1+1≤_;rw [hzB];exact le_ _))));clear h_ h2)
  | (go_at_call 177;(with_reducible show Calls _ _ _ (((w.alloc (.cells #[.int .i64 20,.int .i64 19] 3)).alloc (.cells #[.int .i64 20] 3)).drew) _);refine (HW0.out (((w.alloc (.cells #[.int .i64 20,.int .i64 19] 3)).alloc (.cells #[.int .i64 20] 3)).drew) _ _ _ hbC hrC1).mono ?_;rintro e2 w2 ⟨rfl,h_⟩;(have h2:Below w.heap.size w w2:=hbC.trans (h_.mono hbC.size));(have hS2:=HGS.out w2 h2);(have hSN2:=HGS.out (w2.alloc (.cells #[.int .i64 20,.int .i64 19] 3)) (h2.alloc h2.size (.cells #[.int .i64 20,.int .i64 19] 3)));(have H2:=H_ h2);(have HR2:=H_ ((hrC2.below h_ (by show w.heap.size+1≤_;rw [hzC];omega))));clear h_ h2)))
 | fail
 all_goals (
  go_wp2
  go_ret
  exact ⟨by rw [HT.out,←cat2,←cat2];rfl,H3.out⟩)
theorem text_or (x y:KT) (ihx:TxC x) (ihy:TxC y):TxC (.bin true x y):=by
 intro lo p w hp hok hs hM
 simp only [KT.ok,Bool.and_eq_true] at hok
 obtain ⟨hokx,hoky⟩:=hok
 simp only [KT.size] at hs
 have hbx:(txtK x 1).length≤199:=txt_short hokx (by omega) 1 (by omega)
 have hby:(txtB y [20]).length≤199:=by rw [←txtB_2 hoky];exact txt_short hoky (by omega) 2 (by omega)
 have HT:=H_ (show txtK (.bin true x y) 1=txtK x 1++[43]++txtB y [20] by rw [txt_or1,txtB_2 hoky];simp)
 obtain ⟨ps,⟨b,kv,rfl,_,_,hblk,a,cap,rfl,hpc,hcm,hkid⟩,hstk⟩:=hp.node
 have hpl:=hstk.length
 simp only [KT.kids,List.length_cons,List.length_nil] at hpl
 obtain ⟨u0,u1,rfl⟩:∃ u0 u1,ps=[u0,u1]:=by
  match ps,hpl with
  | [x,y],_=>exact ⟨x,y,rfl⟩
 obtain ⟨gk,ok,rfl,_,_,hgk,kc0⟩:=hkid 0 (by simp)
 obtain ⟨gk',ok',e1,_,_,_,kc1⟩:=hkid 1 (by simp)
 injection e1 with e1
 injection e1 with e1 e2
 subst e1 e2
 have HU0:=H_ hstk.1
 have HU1:=H_ hstk.2.1
 have HW0:Hid (∀ (w':World),Below w.heap.size w w'→Calls Tryz.prog 133 #[u0] w' fun e w2=>e=.returned (.string ⟨(txtK x 1).toArray⟩)∧Below w'.heap.size w' w2):=
  H_ fun w' hb=>ihx lo u0 w' (RT.below HU0.out hb) hokx (by omega) (hM.below hb)
 have HW1:Hid (∀ (w':World) (lo' hi':Nat) (v:Value),Below w.heap.size w w'→SlI lo' hi' w' v [20]→Calls Tryz.prog 177 #[u1,v] w' fun e w2=>e=.returned (.string ⟨(txtB y [20]).toArray⟩)∧Below w'.heap.size w' w2):=
  H_ fun w' lo' hi' v hb hr=>wrap_any y ihy lo lo' hi' u1 v [20] w' (RT.below HU1.out hb) hoky (by omega) (hM.below hb) hr (by simp)
 have hgs:∀ w',Below w.heap.size w w'→w'.cell? ⟨b,0,none⟩=some (.int .i64 20)∧w'.cell? ⟨b,1,none⟩=some (.slice (some ⟨gk,ok,none⟩) 2 cap)∧w'.cell? ⟨gk,ok,none⟩=some u0∧w'.cell? ⟨gk,ok+1,none⟩=some u1:=fun w' hb=>
  ⟨(hblk.below hb hblk.lt).cell 0,(hblk.below hb hblk.lt).cell 1,(hb.cell (p:=⟨gk,ok,none⟩) hgk).trans kc0,(hb.cell (p:=⟨gk,ok+1,none⟩) hgk).trans kc1⟩
 obtain ⟨c0,c1,kc0',kc1'⟩:=hgs w (B_ _ _)
 have HGS:=H_ hgs
 have q1:isActB 20=false:=by decide
 have hbD:Below w.heap.size w w.drew:=Below.drew (B_ _ _)
 have hbA:Below w.heap.size w ((w.alloc (.cells #[.int .i64 20] 3)).drew):=Below.drew (al_below _ _)
 have hzA:((w.alloc (.cells #[.int .i64 20] 3)).drew).heap.size=w.heap.size+1:=alloc_size _ _
 have hrA:SlI w.heap.size (w.heap.size+1) ((w.alloc (.cells #[.int .i64 20] 3)).drew) (.slice (some ⟨w.heap.size,0,none⟩) 1 1) [20]:=Own.sl (Own.lit 1 3 w (ints [20]) 1 (by omega) rfl)
 have hSA:=hgs _ hbA
 have hSD:=hgs w.drew hbD
 clear hp hM hstk hkid hblk hgs
 go_enter Tryz.func133,Tryz.ntmps133
 go_wp2_with fail
 refine (isAct_any _ w).mono ?_
 rintro e w1 ⟨rfl,rfl⟩
 rw [q1]
 go_upto_region 6 with fail
 first
 | (go_region_held_law (fun w'=>w'.cell? ⟨b,0,none⟩=some (.int .i64 20)∧w'.cell? ⟨b,1,none⟩=some (.slice (some ⟨gk,ok,none⟩) 2 cap)∧w'.cell? ⟨gk,ok,none⟩=some u0∧w'.cell? ⟨gk,ok+1,none⟩=some u1) (first | with_reducible assumption | go_keep) (first
  | ((have g_:=HR2);go_at_call 177;(with_reducible show Calls _ _ _ w2 _);refine (HW1.out w2 _ _ _ H2.out HR2.out).mono ?_;rintro e3 w3 ⟨rfl,h_⟩;(have h3:Below w.heap.size w w3:=H2.out.trans (h_.mono H2.out.size));(have hS3:=HGS.out w3 h3);(have H3:=H_ h3);clear h_ h3 g_)
  | ((have g_:=H2);go_at_call 177;(with_reducible show Calls _ _ _ (w2.alloc (.cells #[.int .i64 20] 3)) _);refine (HW1.out (w2.alloc (.cells #[.int .i64 20] 3)) _ _ _ (H2.out.alloc H2.out.size (.cells #[.int .i64 20] 3)) (Own.sl (Own.lit 1 3 w2 (ints [20]) 1 (by omega) rfl))).mono ?_;rintro e3 w3 ⟨rfl,h_⟩;(have h3:Below w.heap.size w w3:=(H2.out.alloc H2.out.size (.cells #[.int .i64 20] 3)).trans (h_.mono (H2.out.alloc H2.out.size (.cells #[.int .i64 20] 3)).size));(have hS3:=HGS.out w3 h3);(have H3:=H_ h3);clear h_ h3 g_)
  | (go_at_call 133;(with_reducible show Calls _ _ _ w.drew _);refine (HW0.out w.drew hbD).mono ?_;rintro e2 w2 ⟨rfl,h_⟩;(have h2:Below w.heap.size w w2:=hbD.trans (h_.mono hbD.size));(have hS2:=HGS.out w2 h2);(have hSN2:=HGS.out (w2.alloc (.cells #[.int .i64 20] 3)) (h2.alloc h2.size (.cells #[.int .i64 20] 3)));(have H2:=H_ h2);clear h_ h2)
  | (go_at_call 133;(with_reducible show Calls _ _ _ ((w.alloc (.cells #[.int .i64 20] 3)).drew) _);refine (HW0.out ((w.alloc (.cells #[.int .i64 20] 3)).drew) hbA).mono ?_;rintro e2 w2 ⟨rfl,h_⟩;(have h2:Below w.heap.size w w2:=hbA.trans (h_.mono hbA.size));(have hS2:=HGS.out w2 h2);(have hSN2:=HGS.out (w2.alloc (.cells #[.int .i64 20] 3)) (h2.alloc h2.size (.cells #[.int .i64 20] 3)));(have H2:=H_ h2);(have HR2:=H_ (hrA.below h_ (by show w.heap.size+1≤_;rw [hzA];exact le_ _)));clear h_ h2)))
 | fail
 all_goals (
  go_wp2
  go_ret
  exact ⟨by rw [HT.out,←cat2,←cat2];rfl,H3.out⟩)
theorem text_any:∀ t:KT,TxC t:=by
 intro t
 induction t with
 | leaf n=>exact text_leaf n
 | star x ih=>exact text_star x ih
 | bin p x y ihx ihy=>
  cases p
  ·exact text_seq x y ihx ihy
  ·exact text_or x y ihx ihy
end
theorem impl_KatText_any (v:Value) (es:List Int) (w:World) (hx:RdI w v es) (hm:es.length≤1048576) (hM:MapT w) :
  Calls Tryz.prog 87 #[v] w fun e w'=>e=.returned (.string ⟨(katTxt es).toArray⟩)∧Below w.heap.size w w':=by
 cases hk:katV es with
 | true=>
  obtain ⟨t,h1,h2,ht,h4⟩:=katV_tree hk
  subst h2
  rw [katTxt_post h1 h4]
  have hl:t.post.length≤40:=by rw [KT.post_length];exact h4
  obtain ⟨a,cap,rfl,_,_⟩:=Sl.shape hx
  have HX:=H_ hx
  have HM:=H_ hM
  have HT:=H_ ht
  have HK:=H_ hk
  clear hx hM ht hk
  go_enter Tryz.func87,Tryz.ntmps87
  go_wp2_with fail
  refine (impl_KatValid _ _ _ t.post _ HX.out (by omega)).mono ?_
  rintro e w1 ⟨rfl,rfl⟩
  rw [HK.out]
  go_wp2_with fail
  refine (implBuild _ t.post t _ HX.out (by omega) HT.out).mono ?_
  rintro e w2 ⟨p,rfl,hb,hp⟩
  have HB:=H_ hb
  have HP:=H_ hp
  have HM2:=H_ (HM.out.below hb)
  clear hb hp
  go_wp2_with fail
  refine (text_any t _ _ _ HP.out h1 h4 HM2.out).mono ?_
  rintro e w3 ⟨rfl,hb⟩
  have HB3:=H_ (HB.out.trans (hb.mono HB.out.size))
  clear hb
  go_wp2
  go_ret
  exact ⟨rfl,HB3.out⟩
 | false=>
  have HT:=H_ (show katTxt es=[] by rw [katTxt,hk];rfl)
  obtain ⟨a,cap,rfl,_,_⟩:=Sl.shape hx
  have HX:=H_ hx
  clear hx
  go_enter Tryz.func87,Tryz.ntmps87
  go_wp2_with fail
  refine (impl_KatValid _ _ _ es _ HX.out (by omega)).mono ?_
  rintro e w1 ⟨rfl,rfl⟩
  rw [hk]
  go_wp2
  go_ret
  exact ⟨by rw [HT.out];rfl,B_ _ _⟩
theorem Outside.alloc {lo hi:Nat} {w w':World} {o:Obj} (h:Outside lo hi (w.alloc o) w'):Outside lo hi w w':=
 (Outside.of_below ((B_ w.heap.size w).alloc (le_ _) o) (le_ _)).trans h
def idxP {α:Type} (p:α→Bool) (xs:List α):Int:=match xs.findIdx? p with | some i=>(i:Nat) | none=>-1
theorem idxP_at {α:Type} (p:α→Bool) (xs:List α) (j:Nat) (h:j<xs.length) (hp:p xs[j]=true) (hn:∀ n,n<j→∀ h:n<xs.length,p xs[n]=false):idxP p xs=(j:Nat):=by
 have:xs.findIdx? p=some j:=by
  rw [List.findIdx?_eq_some_iff_getElem]
  exact ⟨h,hp,fun n hn'=>by have:=hn n hn' (by omega);simp [this]⟩
 rw [idxP,this]
theorem idxP_none {α:Type} (p:α→Bool) (xs:List α) (hn:∀ n (h:n<xs.length),p xs[n]=false):idxP p xs=-1:=by
 have:xs.findIdx? p=none:=by
  rw [List.findIdx?_eq_none_iff]
  intro x hx
  obtain ⟨n,h,rfl⟩:=List.getElem_of_mem hx
  exact hn n h
 rw [idxP,this]
theorem idxP_any {α:Type} (p:α→Bool) (xs:List α):decide (idxP p xs≥0)=xs.any p:=by
 unfold idxP
 cases h:xs.findIdx? p with
 | none=>
  rw [List.findIdx?_eq_none_iff] at h
  simp only [ge_iff_le]
  rw [eq_comm]
  simpa using h
 | some i=>
  rw [List.findIdx?_eq_some_iff_getElem] at h
  obtain ⟨h1,h2,_⟩:=h
  simp only [ge_iff_le]
  rw [eq_comm]
  simp
  exact ⟨xs[i],List.getElem_mem h1,h2⟩
def SlLL (lo hi:Nat) (w:World) (v:Value) (xss:List (List Int)):Prop:=
 ∃ a cap,v=.slice a xss.length cap∧xss.length≤cap∧cap≤maxLen∧∀ i (h:i<xss.length),∃ b off u,a=some ⟨b,off,none⟩∧lo≤b∧b<hi∧b<w.heap.size∧w.cell? ⟨b,off+i,none⟩=some u∧SlI lo hi w u xss[i]
theorem SlLL.below {lo hi B:Nat} {w w':World} {v:Value} {xss:List (List Int)} (h:SlLL lo hi w v xss) (hb:Below B w w') (hB:hi≤B):SlLL lo hi w' v xss:=by
 obtain ⟨a,cap,e,h1,h2,h3⟩:=h
 refine ⟨a,cap,e,h1,h2,fun i hi'=>?_⟩
 obtain ⟨b,off,u,e1,e2,e3,e4,e5,e6⟩:=h3 i hi'
 exact ⟨b,off,u,e1,e2,e3,Nat.lt_of_lt_of_le e4 hb.size,(hb.cell (p:=⟨b,off+i,none⟩) (Nat.lt_of_lt_of_le e3 hB)).trans e5,e6.below hb hB⟩
theorem SlLL.outside {lo hi lo' hi':Nat} {w w':World} {v:Value} {xss:List (List Int)} (h:SlLL lo hi w v xss) (hb:Outside lo' hi' w w') (hd:hi≤lo'∨hi'≤lo):SlLL lo hi w' v xss:=by
 obtain ⟨a,cap,e,h1,h2,h3⟩:=h
 refine ⟨a,cap,e,h1,h2,fun i hi'=>?_⟩
 obtain ⟨b,off,u,e1,e2,e3,e4,e5,e6⟩:=h3 i hi'
 exact ⟨b,off,u,e1,e2,e3,Nat.lt_of_lt_of_le e4 hb.size,by rw [World.cell?_of_block (w:=w) (a:=⟨b,off+i,none⟩) (hb.block b e4 (by omega))];exact e5,e6.outside hb hd⟩
theorem SlLL.wide {lo hi lo' hi':Nat} {w:World} {v:Value} {xss:List (List Int)} (h:SlLL lo hi w v xss) (h1:lo'≤lo) (h2:hi≤hi'):SlLL lo' hi' w v xss:=by
 obtain ⟨a,cap,e,k1,k2,h3⟩:=h
 refine ⟨a,cap,e,k1,k2,fun i hi'=>?_⟩
 obtain ⟨b,off,u,e1,e2,e3,e4,e5,e6⟩:=h3 i hi'
 exact ⟨b,off,u,e1,by omega,by omega,e4,e5,e6.wide h1 h2⟩
theorem SlLL.get {lo hi n cap:Nat} {w:World} {a:Option Addr} {xss:List (List Int)} (h:SlLL lo hi w (.slice a n cap) xss) (i:Nat) (hi':i<xss.length) :
  ∃ b off u,a=some ⟨b,off,none⟩∧lo≤b∧b<hi∧b<w.heap.size∧w.cell? ⟨b,off+i,none⟩=some u∧SlI lo hi w u xss[i]:=by
 obtain ⟨a',cap',e,_,_,h3⟩:=h
 injection e with e1 _ _
 subst e1
 exact h3 i hi'
theorem SlLL.shape {lo hi:Nat} {w:World} {v:Value} {xss:List (List Int)} (h:SlLL lo hi w v xss):∃ a cap,v=.slice a xss.length cap∧xss.length≤cap∧cap≤maxLen:=by
 obtain ⟨a,cap,e,h1,h2,_⟩:=h
 exact ⟨a,cap,e,h1,h2⟩
theorem bit_and {set k:Nat} (hs:set<4611686018427387904):(bits .and .i64 ((set:Int)/2 ^ k) 1==1)=set.testBit k:=by
 have h1:((set:Int)/2 ^ k)=((set/2 ^ k:Nat):Int):=by push_cast;rfl
 have h2:set/2 ^ k<4611686018427387904:=Nat.lt_of_le_of_lt (Nat.div_le_self _ _) hs
 rw [h1,show (1:Int)=((1:Nat):Int) from rfl,bits64_and _ _ h2 (by omega),Nat.testBit_eq_decide_div_mod_eq,Nat.and_one_is_mod]
 rw [Bool.eq_iff_iff]
 simp
 omega
theorem Own.block {sz lo hi e n g cap:Nat} {w:World} {a:Addr} {xs:List Value} (h:Own sz lo hi e w (.slice (some a) n cap) n xs):a=⟨a.block,0,none⟩∧lo≤a.block∧a.block<hi∧∃ cur,w.heap[a.block]?=some (.cells cur e (0,0)):=by
 obtain ⟨⟨_,h1⟩,h2⟩:=h
 rcases h1 with ⟨h1,_⟩|⟨g',cap',cur,e1,hb,hg,_⟩
 ·cases h1
 ·simp only [Value.slice.injEq,Option.some.injEq,true_and] at e1
  obtain ⟨rfl,_⟩:=e1
  exact ⟨rfl,hb,h2 _ rfl,cur,hg⟩
end Go.Proofs.YtfnnhimopokpnaaGreatDoor
