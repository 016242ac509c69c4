/- Lemmas for this seat; no condition. -/
import Derived.Test.YtfnnhimopokpnaaGreatDoorHCAK
import Derived.Test.YtfnnhimopokpnaaGreatDoorHCAL
namespace Go.Proofs.YtfnnhimopokpnaaGreatDoor
open Go.RowKit Proofs.Tryz
set_option maxRecDepth 100000
set_option maxHeartbeats 0
set_option linter.all false
variable {lo hi B lo' hi' n cap g:Nat} {w w':World} {v s:Value} {xss:List (List Int)} {ss:List Value}
def zio:List UInt8:=[110,111,110,101]
def zew:List UInt8:=[121,101,115]
def noT:List UInt8:=[110,111]
def zlo:List UInt8:=[111,112,101,110]
def zg9:List UInt8:=[119,104,97,116]
def eqT(i:Int):List UInt8:=if i=1 then zew else if i=0 then noT else zlo
def zda:List Mv->List UInt8
 | []=>zio
 | m :: r=>r.foldl (λs x=>s++44 :: Γ x) (Γ m)
def difT:Option (List Int)->List UInt8
 | some t=>zfh t
 | none=>zio
noncomputable def zao(D:Dsk)(l:List UInt8):List UInt8:=
 if l=[110,111,119] then za7 D.now
 else if l=[102,105,114,115,116] then za7 D.first
 else if l=[103,111,97,108] then za7 D.goal
 else if l=[109,111,118,101,115] then Η D.made.length
 else if l=[100,111,110,101] then (if eqL D.now D.goal then zew else noT)
 else if l=[101,113,117,97,108] then eqT (equalV D.now D.goal)
 else if l=[101,110,100,115] then Ω (endsK (Ο D.now))
 else if l=[116,114,97,99,101] then difT (differV D.now D.goal)
 else if l=[112,114,111,111,102] then zda D.made
 else zg9
structure NoQ(l:List UInt8):Prop where
 q1:l≠[110,111,119]
 q2:l≠[102,105,114,115,116]
 q3:l≠[103,111,97,108]
 q4:l≠[109,111,118,101,115]
 q5:l≠[100,111,110,101]
 q6:l≠[101,113,117,97,108]
 q7:l≠[101,110,100,115]
 q8:l≠[116,114,97,99,101]
 q9:l≠[112,114,111,111,102]
theorem zmm {D:Dsk} {l:List UInt8}(h:NoQ l):zao D l=zg9:=by
 unfold zao;rw[m_ h.q1,m_ h.q2,m_ h.q3,m_ h.q4,m_ h.q5,m_ h.q6,m_ h.q7,m_ h.q8,m_ h.q9]
theorem zpb(l:List UInt8):l=[110,111,119]\/l=[102,105,114,115,116]\/l=[103,111,97,108]\/l=[109,111,118,101,115]\/l=[100,111,110,101]\/l=[101,113,117,97,108]\/l=[101,110,100,115]\/l=[116,114,97,99,101]\/l=[112,114,111,111,102]\/NoQ l:=by
 by_cases h1:l=[110,111,119]
 ·exact .inl h1
 by_cases h2:l=[102,105,114,115,116]
 ·exact .inr (.inl h2)
 by_cases h3:l=[103,111,97,108]
 ·exact .inr (.inr (.inl h3))
 by_cases h4:l=[109,111,118,101,115]
 ·exact .inr (.inr (.inr (.inl h4)))
 by_cases h5:l=[100,111,110,101]
 ·exact .inr (.inr (.inr (.inr (.inl h5))))
 by_cases h6:l=[101,113,117,97,108]
 ·exact .inr (.inr (.inr (.inr (.inr (.inl h6)))))
 by_cases h7:l=[101,110,100,115]
 ·exact .inr (.inr (.inr (.inr (.inr (.inr (.inl h7))))))
 by_cases h8:l=[116,114,97,99,101]
 ·exact .inr (.inr (.inr (.inr (.inr (.inr (.inr (.inl h8)))))))
 by_cases h9:l=[112,114,111,111,102]
 ·exact .inr (.inr (.inr (.inr (.inr (.inr (.inr (.inr (.inl h9))))))))
 exact .inr (.inr (.inr (.inr (.inr (.inr (.inr (.inr (.inr ⟨h1,h2,h3,h4,h5,h6,h7,h8,h9⟩))))))))
def okT(b:Bool):List UInt8:=if b then [111,107] else [110,111]
noncomputable def zd3(D:Dsk)(l:List UInt8):Dsk × List UInt8:=
 match zba l with
 | some A=>((Χ D A).1,okT (Χ D A).2)
 | none=>(D,zao D l)
noncomputable def za3(D:Dsk)(l:List UInt8):Dsk × List UInt8:=if Θ D then zd3 D l else (Dsk.none,[])
theorem zox(lo hi:Nat)(v:Value)(xs:List Int)(x:Int)(w:World)(hx:SlI lo hi w v xs)(hm:xs.length<=1048576):
  Calls prog 203 #[v,.int .i64 x] w λe w'=>e=.returned (decide (x∈xs))/\w=w':=by
 have HC:Q_ (Calls prog 227 #[v,.int .i64 x] w λe w'=>∃ n:Int,e=.returned n/\(0<=n↔x∈xs)/\w=w'):=by
  apply H_;obtain⟨a,cap,rfl,hcap,hcm,_⟩:=hx.open;have HX:=H_ hx;clear hx hcm hcap
  go_enter func227,ntmps227
  go_wp2
  go_loop [8] (λi=>∃ k:Nat,k<=xs.length/\i=.int .i64 k/\Q_ (∀ j (h1:j<k) (h2:j<xs.length),xs[j]≠x)) (λi=>xs.length-(intOf i).toNat)
  case atStart=>exact⟨0,by omega,rfl,H_ (by intro j h;omega)⟩
  case round=>
   obtain⟨k,hk,rfl,HN⟩:=hrel;by_cases hlt:k<xs.length
   ·(obtain⟨b,off,rfl,_,_,_,hcell⟩:=HX.o.get k hlt);cases hq:x==xs[k]
    ·go_wp2
     go_round
     case rel=>
      refine⟨k+1,by omega,by go_num,H_ ?_⟩;intro j h1 h2;by_cases hj:j<k
      ·exact HN.o j hj h2
      ·(obtain rfl:j=k:=by omega);intro e;rw[e]at hq;simp at hq
     case measure=>simp[intOf];omega
    ·(have e:x=xs[k]:=by simpa using hq)
     have hmem:x∈xs:=by
      rw[e];exact u_ hlt
     have HI:Q_ ((0:Int)<=(k:Int)↔x∈xs):=H_ ⟨λ_=>hmem,λ_=>by omega⟩;clear e hmem;go_wp2;go_ret;exact⟨_,rfl,HI.o,rfl⟩
   ·have hno:¬x∈xs:=by
     intro h;obtain⟨j,hj,e⟩:=ax_ h;exact HN.o j (by omega) hj e
    have HI:Q_ ((0:Int)<=-1↔x∈xs):=H_ ⟨λh=>absurd h (by omega),λh=>absurd h hno⟩;clear hno;go_wp2;go_ret;exact⟨_,rfl,HI.o,rfl⟩
 obtain⟨a,cap,rfl,_,_,_⟩:=hx.open;clear hx
 go_enter func203,ntmps203
 go_wp2_with fail
 refine HC.o.mono ?_;rintro e _ ⟨n,rfl,hn,rfl⟩;have HN:=H_ hn;clear hn HC;go_wp2;go_ret;have h2:decide (0<=n)=decide (x∈xs):=decide_eq_decide.2 HN.o;exact⟨by rw[<-h2];rfl,rfl⟩
section
def za9(t:KT)(S:List Int):List UInt8:=if t.root∈S then [40]++ξ t 1++[41] else ξ t 1
theorem zk3 {t:KT}(h:t.ok 0=true):ξ t 2=za9 t [20]:=by
 cases t with
 | leaf n=>
  simp only[KT.ok,j_,t_]at h;rw[za9,m_ (by simp[KT.root];omega)];rfl
 | star t=>rw[za9,m_ (by simp[KT.root])];rfl
 | bin p a b=>cases p<;>simp[za9,KT.root,KT.op,zg4,znw,zin,zk9]
theorem zjm {t:KT}(h:t.ok 0=true):ξ t 3=za9 t [20,19]/\ξ t 3=za9 t [19,20]:=by
 cases t with
 | leaf n=>
  simp only[KT.ok,j_,t_]at h;rw[za9,za9,m_ (by simp[KT.root];omega),m_ (by simp[KT.root];omega)];exact⟨rfl,rfl⟩
 | star t=>rw[za9,za9,m_ (by simp[KT.root]),m_ (by simp[KT.root])];exact⟨rfl,rfl⟩
 | bin p a b=>cases p<;>simp[za9,KT.root,KT.op,zg4,zjh,zin,zkb]
def TxC(t:KT):Prop:=∀ (lo:Nat) (p:Value) (w:World),RT lo none w t p->t.ok 0=true->t.size<=40->zdb w ->
 c_ 133 #[p] w (.string ⟨(ξ t 1).toArray⟩)
theorem zkt(t:KT)(ht:TxC t)(lo lo' hi':Nat)(p v:Value)(S:List Int)(w:World)(hp:RT lo none w t p)(hok:t.ok 0=true)(hs:t.size<=40)(hM:zdb w)(hx:SlI lo' hi' w v S)(hm:S.length<=100):
  c_ 177 #[p,v] w (.string ⟨(za9 t S).toArray⟩):=by
 have HC:=H_ (ht lo p w hp hok hs hM);have hb1:(ξ t 1).length<=199:=zdo hok hs 1 (by omega);obtain⟨ps,⟨b,kv,rfl,_,_,hblk,_⟩,_⟩:=hp.node;obtain⟨a,cap,rfl,_,_⟩:=ο hx;have HX:=H_ hx;have c0:=hblk.cell 0;clear hx ht hp;by_cases hin:t.root∈S
 ·have HT:=H_ (show za9 t S=[40]++ξ t 1++[41] by rw[za9,x_ hin])
  have hd:=b6_ hin
  go_enter func177,ntmps177
  go_wp2_with fail
  refine(zox _ _ _ S t.root w HX.o (by omega)).mono ?_;rintro e w1 ⟨rfl,rfl⟩;rw[hd];go_wp2_with fail
  refine HC.o.mono ?_;rintro e w2 ⟨rfl,hb⟩;have HB:=H_ hb;clear hb;go_wp2;go_ret;exact⟨by rw[HT.o,<-zb9,<-zb9];rfl,HB.o⟩
 ·have HT:=H_ (show za9 t S=ξ t 1 by rw[za9,m_ hin])
  have hd:=ec_ hin
  go_enter func177,ntmps177
  go_wp2_with fail
  refine(zox _ _ _ S t.root w HX.o (by omega)).mono ?_;rintro e w1 ⟨rfl,rfl⟩;rw[hd];go_wp2_with fail
  refine HC.o.mono ?_;rintro e w2 ⟨rfl,hb⟩;have HB:=H_ hb;clear hb;go_wp2;go_ret;exact⟨by rw[HT.o];rfl,HB.o⟩
theorem z0a(n:Int):TxC (.leaf n):=by
 intro lo p w hp hok hs hM;obtain⟨ps,⟨b,kv,rfl,_,_,hblk,_⟩,_⟩:=hp.node;have c0:w.cell? (p_ b 0)=some (.int .i64 n):=hblk.cell 0;simp only[KT.ok,j_,t_]at hok;obtain⟨hn0,hn18⟩:=hok;clear hp;by_cases h15:n<=15
 ·obtain⟨m,rfl⟩:∃ m:Nat,n=m:=⟨n.toNat,by omega⟩
  have HT:=H_ (show ξ (.leaf (m:Int)) 1=Ω m by rw[zi4,x_ h15];rfl);have hia:zat (m:Int)=false:=by simp[zat];omega
  have q1:((m:Int)==19)=false:=by simp;omega
  have q2:((m:Int)==20)=false:=by simp;omega
  have q3:((m:Int)==21)=false:=by simp;omega
  have HM:=H_ hM;clear hM
  go_enter func133,ntmps133
  go_wp2_with fail
  refine(zb6 _ w).mono ?_;rintro e w1 ⟨rfl,rfl⟩;rw[hia];go_wp2_with fail
  refine(zi6 m (by omega) w HM.o).mono ?_;rintro e w1 ⟨rfl,rfl⟩;go_wp2;go_ret;exact⟨by rw[HT.o];rfl,B_ _ _⟩
 ·have h3:n=16\/n=17\/n=18:=by omega
  clear hM h15;rcases h3 with rfl|rfl|rfl
  all_goals (
   go_enter func133,ntmps133
   go_wp2_with fail
   refine(zb6 _ w).mono ?_;rintro e w1 ⟨rfl,rfl⟩;go_wp2;go_ret;exact⟨rfl,B_ _ _⟩)
theorem zu5(x:KT)(ih:TxC x):TxC (.star x):=by
 intro lo p w hp hok hs hM;have hokx:x.ok 0=true:=hok;simp only[KT.size]at hs;have hb3:(ξ x 3).length<=199:=zdo hokx (by omega) 3 (by omega);have HT:=H_ (show ξ (.star x) 1=za9 x [19,20]++[42] by rw[zjr,(zjm hokx).2]);have hbl:(za9 x [19,20]).length<=199:=by rw[<-(zjm hokx).2];exact hb3
 obtain⟨ps,⟨b,kv,rfl,_,_,hblk,a,cap,rfl,hpc,hcm,hkid⟩,hstk⟩:=hp.node;have hpl:=hstk.length;simp only[KT.kids,I_,an_]at hpl
 obtain⟨u0,rfl⟩:∃ u0,ps=[u0]:=by
  match ps,hpl with
  | [x],_=>exact⟨x,rfl⟩
 obtain⟨gk,ok,rfl,_,_,hgk,kc0⟩:=hkid 0 (by simp);have hu:RT lo none w x u0:=hstk.1;have c0:w.cell? (p_ b 0)=some (.int .i64 21):=hblk.cell 0;have c1:w.cell? (p_ b 1)=some (.slice (q_ gk ok) 1 cap):=hblk.cell 1;have kc:w.cell? (p_ gk ok)=some u0:=kc0;have hb1:=η w (.cells #[(19:Int),(20:Int)] 3)
 have HC:=H_ (zkt x ih lo w (w+1) u0 (.slice (q_ w 0) 2 2) [19,20] (w.alloc (.cells #[(19:Int),(20:Int)] 3)) (hu.below hb1) hokx (by omega) (hM.below hb1)
  (zcq (ς 1 3 w (ints [19,20]) 2 (by omega) rfl)) (by simp))
 have HB1:=H_ hb1;clear hp hM hu hstk hkid hblk kc0 hb1;have q1:zat 21=false:=by decide
 go_enter func133,ntmps133
 go_wp2_with fail
 refine(zb6 _ w).mono ?_;rintro e w1 ⟨rfl,rfl⟩;rw[q1];go_wp2_with fail
 refine HC.o.mono ?_;rintro e w2 ⟨rfl,hb⟩;have HB:=H_ (HB1.o.trans (hb.mono (by rw[ν];omega)));clear hb;go_wp2;go_ret;exact⟨by rw[HT.o,<-zb9];rfl,HB.o⟩
end
section
theorem zuh(x y:KT)(ihx:TxC x)(ihy:TxC y):TxC (.bin false x y):=by
 intro lo p w hp hok hs hM;simp only[KT.ok,j_]at hok;obtain⟨hokx,hoky⟩:=hok;simp only[KT.size]at hs;have hbx:(za9 x [20]).length<=199:=by rw[<-zk3 hokx];exact zdo hokx (by omega) 2 (by omega)
 have hby:(za9 y [20,19]).length<=199:=by rw[<-(zjm hoky).1];exact zdo hoky (by omega) 3 (by omega)
 have HT:=H_ (show ξ (.bin false x y) 1=za9 x [20]++[59]++za9 y [20,19] by rw[zin,zk3 hokx,(zjm hoky).1];simp);obtain⟨ps,⟨b,kv,rfl,_,_,hblk,a,cap,rfl,hpc,hcm,hkid⟩,hstk⟩:=hp.node;have hpl:=hstk.length;simp only[KT.kids,I_,an_]at hpl
 obtain⟨u0,u1,rfl⟩:∃ u0 u1,ps=[u0,u1]:=by
  match ps,hpl with
  | [x,y],_=>exact⟨x,y,rfl⟩
 obtain⟨gk,ok,rfl,_,_,hgk,kc0⟩:=hkid 0 (by simp);obtain⟨gk',ok',e1,_,_,_,kc1⟩:=hkid 1 (by simp);injection e1 with e1;injection e1 with e1 e2;subst e1 e2;have HU0:=H_ hstk.1;have HU1:=H_ hstk.2.1;have HMT:=H_ hM
 have HW0:Q_ (∀ (w':World) (lo' hi':Nat) (v:Value),Below w w w'->SlI lo' hi' w' v [20]->Calls prog 177 #[u0,v] w' λe w2=>e=.returned (.string ⟨(za9 x [20]).toArray⟩)/\Below w' w' w2):=
  H_ λw' lo' hi' v hb hr=>zkt x ihx lo lo' hi' u0 v [20] w' (zdw HU0.o hb) hokx (by omega) (hM.below hb) hr (by simp)
 have HW1:Q_ (∀ (w':World) (lo' hi':Nat) (v:Value),Below w w w'->SlI lo' hi' w' v [20,19]->Calls prog 177 #[u1,v] w' λe w2=>e=.returned (.string ⟨(za9 y [20,19]).toArray⟩)/\Below w' w' w2):=
  H_ λw' lo' hi' v hb hr=>zkt y ihy lo lo' hi' u1 v [20,19] w' (zdw HU1.o hb) hoky (by omega) (hM.below hb) hr (by simp)
 have hgs:∀ w',Below w w w'->w'.cell? (p_ b 0)=some (.int .i64 19)/\w'.cell? (p_ b 1)=some (.slice (q_ gk ok) 2 cap)/\w'.cell? (p_ gk ok)=some u0/\w'.cell? (p_ gk (ok+1))=some u1:=λw' hb=>
  ⟨(hblk.below hb hblk.lt).cell 0,(hblk.below hb hblk.lt).cell 1,(hb.cell (p:=p_ gk ok) hgk).trans kc0,(hb.cell (p:=p_ gk (ok+1)) hgk).trans kc1⟩
 obtain⟨c0,c1,kc0',kc1'⟩:=hgs w (B_ _ _);have HGS:=H_ hgs;have q1:zat 19=false:=by decide
 have hbA:Below w w ((w.alloc (.cells #[(20:Int)] 3)).drew):=z_ (η _ _);have hbB:Below w w (((w.alloc (.cells #[(20:Int)] 3)).alloc (.cells #[(20:Int),(19:Int)] 3)).drew):=z_ ((η w _).alloc (by simp) _);have hbC:Below w w (((w.alloc (.cells #[(20:Int),(19:Int)] 3)).alloc (.cells #[(20:Int)] 3)).drew):=z_ ((η w _).alloc (by simp) _);have hrA:SlI w (w+1) ((w.alloc (.cells #[(20:Int)] 3)).drew) (.slice (q_ w 0) 1 1) [20]:=zcq (ς 1 3 w (ints [20]) 1 (by omega) rfl);have hzB:(((w.alloc (.cells #[(20:Int)] 3)).alloc (.cells #[(20:Int),(19:Int)] 3)).drew).heap.size=w.heap.size+2:=by show ((w.alloc _).alloc _).heap.size=_;simp
 have hzC:(((w.alloc (.cells #[(20:Int),(19:Int)] 3)).alloc (.cells #[(20:Int)] 3)).drew).heap.size=w.heap.size+2:=by show ((w.alloc _).alloc _).heap.size=_;simp
 have hrB1:SlI w (w+1) (((w.alloc (.cells #[(20:Int)] 3)).alloc (.cells #[(20:Int),(19:Int)] 3)).drew) (.slice (q_ w 0) 1 1) [20]:=by
  have h:Own 1 w (w+1) 3 ((w.alloc (.cells #[(20:Int)] 3)).alloc (.cells #[(20:Int),(19:Int)] 3)) (.slice (q_ w 0) 1 1) 1 (ints [20]):=zgs (ς 1 3 w (ints [20]) 1 (by omega) rfl) (η _ _) (by rw[ν];exact le_ _);exact zcq h
 have hrB2:SlI (w+1) (w.heap.size+1+1) (((w.alloc (.cells #[(20:Int)] 3)).alloc (.cells #[(20:Int),(19:Int)] 3)).drew) (.slice (q_ (w+1) 0) 2 2) [20,19]:=by
  have h:=ς 1 3 (w.alloc (.cells #[(20:Int)] 3)) (ints [20,19]) 2 (by omega) rfl;rw[ν]at h;exact zcq h
 have hrC2:SlI w (w+1) (((w.alloc (.cells #[(20:Int),(19:Int)] 3)).alloc (.cells #[(20:Int)] 3)).drew) (.slice (q_ w 0) 2 2) [20,19]:=by
  have h:Own 1 w (w+1) 3 ((w.alloc (.cells #[(20:Int),(19:Int)] 3)).alloc (.cells #[(20:Int)] 3)) (.slice (q_ w 0) 2 2) 2 (ints [20,19]):=zgs (ς 1 3 w (ints [20,19]) 2 (by omega) rfl) (η _ _) (by rw[ν];exact le_ _);exact zcq h
 have hrC1:SlI (w+1) (w.heap.size+1+1) (((w.alloc (.cells #[(20:Int),(19:Int)] 3)).alloc (.cells #[(20:Int)] 3)).drew) (.slice (q_ (w+1) 0) 1 1) [20]:=by
  have h:=ς 1 3 (w.alloc (.cells #[(20:Int),(19:Int)] 3)) (ints [20]) 1 (by omega) rfl;rw[ν]at h;exact zcq h
 have hSA:=hgs _ hbA;have hSB:=hgs _ hbB;have hSC:=hgs _ hbC;have hSD:=hgs w.drew (z_ (B_ _ _));clear hp hM hstk hkid hblk hgs
 go_enter func133,ntmps133
 go_wp2_with fail
 refine(zb6 _ w).mono ?_;rintro e w1 ⟨rfl,rfl⟩;rw[q1];go_upto_region 4 with fail
 first
 | (go_region_held_law (λw'=>w'.cell? (p_ b 0)=some (.int .i64 19)/\w'.cell? (p_ b 1)=some (.slice (q_ gk ok) 2 cap)/\w'.cell? (p_ gk ok)=some u0/\w'.cell? (p_ gk (ok+1))=some u1) (first | with_reducible assumption | go_keep) (first
  | ((have g_:=HR2);go_at_call 177;(with_reducible show Calls _ _ _ w2 _);refine(HW1.o w2 _ _ _ H2.o HR2.o).mono ?_;rintro e3 w3 ⟨rfl,h_⟩;(have h3:Below w w w3:=H2.o.trans (h_.mono H2.o.size));(have hS3:=HGS.o w3 h3);(have H3:=H_ h3);clear h_ h3 g_)
  | ((have g_:=H2);go_at_call 177;(with_reducible show Calls _ _ _ (w2.alloc (.cells #[(20:Int),(19:Int)] 3)) _);refine(HW1.o (w2.alloc (.cells #[(20:Int),(19:Int)] 3)) _ _ _ (H2.o.alloc H2.o.size (.cells #[(20:Int),(19:Int)] 3)) (zcq (ς 1 3 w2 (ints [20,19]) 2 (by omega) rfl))).mono ?_;rintro e3 w3 ⟨rfl,h_⟩;(have h3:Below w w w3:=(H2.o.alloc H2.o.size (.cells #[(20:Int),(19:Int)] 3)).trans (h_.mono (H2.o.alloc H2.o.size (.cells #[(20:Int),(19:Int)] 3)).size));(have hS3:=HGS.o w3 h3);(have H3:=H_ h3);clear h_ h3 g_)
  | (go_at_call 177;(with_reducible show Calls _ _ _ ((w.alloc (.cells #[(20:Int)] 3)).drew) _);refine(HW0.o ((w.alloc (.cells #[(20:Int)] 3)).drew) _ _ _ hbA hrA).mono ?_;rintro e2 w2 ⟨rfl,h_⟩;(have h2:Below w w w2:=hbA.trans (h_.mono hbA.size));(have hS2:=HGS.o w2 h2);(have hSN2:=HGS.o (w2.alloc (.cells #[(20:Int),(19:Int)] 3)) (h2.alloc h2.size (.cells #[(20:Int),(19:Int)] 3)));(have H2:=H_ h2);clear h_ h2)
  | (go_at_call 177;(with_reducible show Calls _ _ _ (((w.alloc (.cells #[(20:Int)] 3)).alloc (.cells #[(20:Int),(19:Int)] 3)).drew) _);refine(HW0.o (((w.alloc (.cells #[(20:Int)] 3)).alloc (.cells #[(20:Int),(19:Int)] 3)).drew) _ _ _ hbB hrB1).mono ?_;rintro e2 w2 ⟨rfl,h_⟩;(have h2:Below w w w2:=hbB.trans (h_.mono hbB.size));(have hS2:=HGS.o w2 h2);(have hSN2:=HGS.o (w2.alloc (.cells #[(20:Int),(19:Int)] 3)) (h2.alloc h2.size (.cells #[(20:Int),(19:Int)] 3)));(have H2:=H_ h2);(have HR2:=H_ ((hrB2.below h_ (by show w.heap.size+1+1<=_;rw[hzB];exact le_ _))));clear h_ h2)
  | (go_at_call 177;(with_reducible show Calls _ _ _ (((w.alloc (.cells #[(20:Int),(19:Int)] 3)).alloc (.cells #[(20:Int)] 3)).drew) _);refine(HW0.o (((w.alloc (.cells #[(20:Int),(19:Int)] 3)).alloc (.cells #[(20:Int)] 3)).drew) _ _ _ hbC hrC1).mono ?_;rintro e2 w2 ⟨rfl,h_⟩;(have h2:Below w w w2:=hbC.trans (h_.mono hbC.size));(have hS2:=HGS.o w2 h2);(have hSN2:=HGS.o (w2.alloc (.cells #[(20:Int),(19:Int)] 3)) (h2.alloc h2.size (.cells #[(20:Int),(19:Int)] 3)));(have H2:=H_ h2);(have HR2:=H_ ((hrC2.below h_ (by show w.heap.size+1<=_;rw[hzC];omega))));clear h_ h2)))
 | fail
 all_goals (
  go_wp2;go_ret;exact⟨by rw[HT.o,<-zb9,<-zb9];rfl,H3.o⟩)
theorem z01(x y:KT)(ihx:TxC x)(ihy:TxC y):TxC (.bin true x y):=by
 intro lo p w hp hok hs hM;simp only[KT.ok,j_]at hok;obtain⟨hokx,hoky⟩:=hok;simp only[KT.size]at hs;have hbx:(ξ x 1).length<=199:=zdo hokx (by omega) 1 (by omega);have hby:(za9 y [20]).length<=199:=by rw[<-zk3 hoky];exact zdo hoky (by omega) 2 (by omega)
 have HT:=H_ (show ξ (.bin true x y) 1=ξ x 1++[43]++za9 y [20] by rw[zg4,zk3 hoky];simp);obtain⟨ps,⟨b,kv,rfl,_,_,hblk,a,cap,rfl,hpc,hcm,hkid⟩,hstk⟩:=hp.node;have hpl:=hstk.length;simp only[KT.kids,I_,an_]at hpl
 obtain⟨u0,u1,rfl⟩:∃ u0 u1,ps=[u0,u1]:=by
  match ps,hpl with
  | [x,y],_=>exact⟨x,y,rfl⟩
 obtain⟨gk,ok,rfl,_,_,hgk,kc0⟩:=hkid 0 (by simp);obtain⟨gk',ok',e1,_,_,_,kc1⟩:=hkid 1 (by simp);injection e1 with e1;injection e1 with e1 e2;subst e1 e2;have HU0:=H_ hstk.1;have HU1:=H_ hstk.2.1
 have HW0:Q_ (∀ (w':World),Below w w w'->Calls prog 133 #[u0] w' λe w2=>e=.returned (.string ⟨(ξ x 1).toArray⟩)/\Below w' w' w2):=
  H_ λw' hb=>ihx lo u0 w' (zdw HU0.o hb) hokx (by omega) (hM.below hb)
 have HW1:Q_ (∀ (w':World) (lo' hi':Nat) (v:Value),Below w w w'->SlI lo' hi' w' v [20]->Calls prog 177 #[u1,v] w' λe w2=>e=.returned (.string ⟨(za9 y [20]).toArray⟩)/\Below w' w' w2):=
  H_ λw' lo' hi' v hb hr=>zkt y ihy lo lo' hi' u1 v [20] w' (zdw HU1.o hb) hoky (by omega) (hM.below hb) hr (by simp)
 have hgs:∀ w',Below w w w'->w'.cell? (p_ b 0)=some (.int .i64 20)/\w'.cell? (p_ b 1)=some (.slice (q_ gk ok) 2 cap)/\w'.cell? (p_ gk ok)=some u0/\w'.cell? (p_ gk (ok+1))=some u1:=λw' hb=>
  ⟨(hblk.below hb hblk.lt).cell 0,(hblk.below hb hblk.lt).cell 1,(hb.cell (p:=p_ gk ok) hgk).trans kc0,(hb.cell (p:=p_ gk (ok+1)) hgk).trans kc1⟩
 obtain⟨c0,c1,kc0',kc1'⟩:=hgs w (B_ _ _);have HGS:=H_ hgs;have q1:zat 20=false:=by decide
 have hbD:Below w w w.drew:=z_ (B_ _ _);have hbA:Below w w ((w.alloc (.cells #[(20:Int)] 3)).drew):=z_ (η _ _);have hzA:((w.alloc (.cells #[(20:Int)] 3)).drew).heap.size=w.heap.size+1:=ν _ _;have hrA:SlI w (w+1) ((w.alloc (.cells #[(20:Int)] 3)).drew) (.slice (q_ w 0) 1 1) [20]:=zcq (ς 1 3 w (ints [20]) 1 (by omega) rfl);have hSA:=hgs _ hbA;have hSD:=hgs w.drew hbD;clear hp hM hstk hkid hblk hgs
 go_enter func133,ntmps133
 go_wp2_with fail
 refine(zb6 _ w).mono ?_;rintro e w1 ⟨rfl,rfl⟩;rw[q1];go_upto_region 6 with fail
 first
 | (go_region_held_law (λw'=>w'.cell? (p_ b 0)=some (.int .i64 20)/\w'.cell? (p_ b 1)=some (.slice (q_ gk ok) 2 cap)/\w'.cell? (p_ gk ok)=some u0/\w'.cell? (p_ gk (ok+1))=some u1) (first | with_reducible assumption | go_keep) (first
  | ((have g_:=HR2);go_at_call 177;(with_reducible show Calls _ _ _ w2 _);refine(HW1.o w2 _ _ _ H2.o HR2.o).mono ?_;rintro e3 w3 ⟨rfl,h_⟩;(have h3:Below w w w3:=H2.o.trans (h_.mono H2.o.size));(have hS3:=HGS.o w3 h3);(have H3:=H_ h3);clear h_ h3 g_)
  | ((have g_:=H2);go_at_call 177;(with_reducible show Calls _ _ _ (w2.alloc (.cells #[(20:Int)] 3)) _);refine(HW1.o (w2.alloc (.cells #[(20:Int)] 3)) _ _ _ (H2.o.alloc H2.o.size (.cells #[(20:Int)] 3)) (zcq (ς 1 3 w2 (ints [20]) 1 (by omega) rfl))).mono ?_;rintro e3 w3 ⟨rfl,h_⟩;(have h3:Below w w w3:=(H2.o.alloc H2.o.size (.cells #[(20:Int)] 3)).trans (h_.mono (H2.o.alloc H2.o.size (.cells #[(20:Int)] 3)).size));(have hS3:=HGS.o w3 h3);(have H3:=H_ h3);clear h_ h3 g_)
  | (go_at_call 133;(with_reducible show Calls _ _ _ w.drew _);refine(HW0.o w.drew hbD).mono ?_;rintro e2 w2 ⟨rfl,h_⟩;(have h2:Below w w w2:=hbD.trans (h_.mono hbD.size));(have hS2:=HGS.o w2 h2);(have hSN2:=HGS.o (w2.alloc (.cells #[(20:Int)] 3)) (h2.alloc h2.size (.cells #[(20:Int)] 3)));(have H2:=H_ h2);clear h_ h2)
  | (go_at_call 133;(with_reducible show Calls _ _ _ ((w.alloc (.cells #[(20:Int)] 3)).drew) _);refine(HW0.o ((w.alloc (.cells #[(20:Int)] 3)).drew) hbA).mono ?_;rintro e2 w2 ⟨rfl,h_⟩;(have h2:Below w w w2:=hbA.trans (h_.mono hbA.size));(have hS2:=HGS.o w2 h2);(have hSN2:=HGS.o (w2.alloc (.cells #[(20:Int)] 3)) (h2.alloc h2.size (.cells #[(20:Int)] 3)));(have H2:=H_ h2);(have HR2:=H_ (hrA.below h_ (by show w.heap.size+1<=_;rw[hzA];exact le_ _)));clear h_ h2)))
 | fail
 all_goals (
  go_wp2;go_ret;exact⟨by rw[HT.o,<-zb9,<-zb9];rfl,H3.o⟩)
theorem zy1:∀ t:KT,TxC t:=by
 intro t
 induction t with
 | leaf n=>exact z0a n
 | star x ih=>exact zu5 x ih
 | bin p x y ihx ihy=>
  cases p
  ·exact zuh x y ihx ihy
  ·exact z01 x y ihx ihy
end
theorem zm6(v:Value)(es:List Int)(w:World)(hx:RdI w v es)(hm:es.length<=1048576)(hM:zdb w):
  c_ 87 #[v] w (.string ⟨(za7 es).toArray⟩):=by
 cases hk:μ es with
 | true=>
  obtain⟨t,h1,h2,ht,h4⟩:=zd6 hk;subst h2;rw[zqu h1 h4];have hl:t.post.length<=40:=by rw[za2];exact h4
  obtain⟨a,cap,rfl,_,_⟩:=ο hx;have HX:=H_ hx;have HM:=H_ hM;have HT:=H_ ht;have HK:=H_ hk;clear hx hM ht hk
  go_enter func87,ntmps87
  go_wp2_with fail
  refine(zc5 _ _ _ t.post _ HX.o (by omega)).mono ?_;rintro e w1 ⟨rfl,rfl⟩;rw[HK.o];go_wp2_with fail
  refine(znm _ t.post t _ HX.o (by omega) HT.o).mono ?_;rintro e w2 ⟨p,rfl,hb,hp⟩;have HB:=H_ hb;have HP:=H_ hp;have HM2:=H_ (HM.o.below hb);clear hb hp;go_wp2_with fail
  refine(zy1 t _ _ _ HP.o h1 h4 HM2.o).mono ?_;rintro e w3 ⟨rfl,hb⟩;have HB3:=HB.ts hb;clear hb;go_wp2;go_ret;exact⟨rfl,HB3.o⟩
 | false=>
  have HT:=H_ (show za7 es=[] by rw[za7,hk];rfl);obtain⟨a,cap,rfl,_,_⟩:=ο hx;have HX:=H_ hx;clear hx
  go_enter func87,ntmps87
  go_wp2_with fail
  refine(zc5 _ _ _ es _ HX.o (by omega)).mono ?_;rintro e w1 ⟨rfl,rfl⟩;rw[hk];go_wp2;go_ret;exact⟨by rw[HT.o];rfl,B_ _ _⟩
def zd9{α:Type}(p:α->Bool)(xs:List α):Int:=match xs.findIdx? p with | some i=>(i:Nat) | none=>-1
theorem zsa {α:Type}(p:α->Bool)(xs:List α)(j:Nat)(h:j<xs.length)(hp:p xs[j]=true)(hn:∀ n,n<j->∀ h:n<xs.length,p xs[n]=false):zd9 p xs=(j:Nat):=by
 have:xs.findIdx? p=some j:=by
  rw[bp_];exact⟨h,hp,λn hn'=>by have:=hn n hn' (by omega);simp[this]⟩
 rw[zd9,this]
theorem z1h {α:Type}(p:α->Bool)(xs:List α)(hn:∀ n (h:n<xs.length),p xs[n]=false):zd9 p xs=-1:=by
 have:xs.findIdx? p=none:=by
  rw[c0_];intro x hx;obtain⟨n,h,rfl⟩:=ax_ hx;exact hn n h
 rw[zd9,this]
theorem zvk {α:Type}(p:α->Bool)(xs:List α):decide (zd9 p xs≥0)=xs.any p:=by
 unfold zd9;cases h:xs.findIdx? p with
 | none=>
  rw[c0_]at h;simp only[ge_iff_le];rw[eq_comm]
  simpa using h
 | some i=>
  rw[bp_]at h;obtain⟨h1,h2,_⟩:=h;simp only[ge_iff_le];rw[eq_comm];simp;exact⟨xs[i],u_ h1,h2⟩
def za5(lo hi:Nat)(w:World)(v:Value)(xss:List (List Int)):Prop:=
 ∃ a cap,v=.slice a xss cap/\xss.length<=cap/\cap<=maxLen/\∀ i (h:i<xss.length),∃ b off u,a=some ⟨b,off,none⟩/\lo<=b/\b<hi/\b<w.heap.size/\w.cell? (p_ b (off+i))=some u/\SlI lo hi w u xss[i]
theorem za5.below(h:za5 lo hi w v xss)(hb:Below B w w')(hB:hi<=B):za5 lo hi w' v xss:=by
 obtain⟨a,cap,e,h1,h2,h3⟩:=h;refine⟨a,cap,e,h1,h2,λi hi'=>?_⟩;obtain⟨b,off,u,e1,e2,e3,e4,e5,e6⟩:=h3 i hi';exact⟨b,off,u,e1,e2,e3,T_ e4 hb.size,(hb.cell (p:=p_ b (off+i)) (T_ e3 hB)).trans e5,e6.below hb hB⟩
theorem za5.outside(h:za5 lo hi w v xss)(hb:β lo' hi' w w')(hd:hi<=lo'\/hi'<=lo):za5 lo hi w' v xss:=by
 obtain⟨a,cap,e,h1,h2,h3⟩:=h;refine⟨a,cap,e,h1,h2,λi hi'=>?_⟩;obtain⟨b,off,u,e1,e2,e3,e4,e5,e6⟩:=h3 i hi';exact⟨b,off,u,e1,e2,e3,T_ e4 hb.size,by rw[ag_ (w:=w) (a:=p_ b (off+i)) (hb.block b e4 (by omega))];exact e5,e6.outside hb hd⟩
theorem za5.wide(h:za5 lo hi w v xss)(h1:lo'<=lo)(h2:hi<=hi'):za5 lo' hi' w v xss:=by
 obtain⟨a,cap,e,k1,k2,h3⟩:=h;refine⟨a,cap,e,k1,k2,λi hi'=>?_⟩;obtain⟨b,off,u,e1,e2,e3,e4,e5,e6⟩:=h3 i hi';exact⟨b,off,u,e1,by omega,by omega,e4,e5,e6.wide h1 h2⟩
theorem za5.get {a:Option Addr}(h:za5 lo hi w (.slice a n cap) xss)(i:Nat)(hi':i<xss.length):
  ∃ b off u,a=some ⟨b,off,none⟩/\lo<=b/\b<hi/\b<w.heap.size/\w.cell? (p_ b (off+i))=some u/\SlI lo hi w u xss[i]:=by
 obtain⟨a',cap',e,_,_,h3⟩:=h;injection e with e1 _ _;subst e1;exact h3 i hi'
theorem za5.shape(h:za5 lo hi w v xss):∃ a cap,v=.slice a xss cap/\xss.length<=cap/\cap<=maxLen:=by
 obtain⟨a,cap,e,h1,h2,_⟩:=h;exact⟨a,cap,e,h1,h2⟩
theorem zje {set k:Nat}(hs:set<4611686018427387904):(bits .and .i64 ((set:Int)/2 ^ k) 1==1)=set.testBit k:=by
 have h1:((set:Int)/2 ^ k)=((set/2 ^ k:Nat):Int):=by push_cast;rfl
 have h2:set/2 ^ k<4611686018427387904:=c4_ (Nat.div_le_self _ _) hs;rw[h1,show (1:Int)=((1:Nat):Int) from rfl,zs5 _ _ h2 (by omega),br_,Nat.and_one_is_mod];rw[cm_];simp;omega
structure MoOk(n p q:Nat)(acts:List (List Int)):Prop where
 n1:1<=n
 n5:n<=5
 p2:p<2 ^ n
 q2:q<2 ^ n
 len:acts.length=3
 rows:∀ k (h:k<acts.length),rowsB (n:Int) acts[k]=true
theorem MoOk.small {p q:Nat} {acts:List (List Int)}(h:MoOk n p q acts):p<1099511627776/\q<1099511627776:=by
 have h5:2 ^ n<=2 ^ 5:=ah_ (by omega) h.n5;have:=h.p2;have:=h.q2;omega
def zbv(lo hi:Nat)(w:World)(v:Value)(n:Nat)(ss:List Value):Prop:=
 Own 1 lo hi 22 w v ss.length ss/\∀ s∈ss,∃ xs:List Int,xs.length=n/\γ lo hi 3 w s xs
theorem zbv.below(h:zbv lo hi w v n ss)(hb:Below B w w')(hB:hi<=B):zbv lo hi w' v n ss:=
 ⟨h.1.below hb hB,λs hs=>by obtain⟨xs,h1,h2⟩:=h.2 s hs;exact⟨xs,h1,h2.below hb hB⟩⟩
theorem zbv.outside(h:zbv lo hi w v n ss)(hb:β lo' hi' w w')(hd:hi<=lo'\/hi'<=lo):zbv lo hi w' v n ss:=
 ⟨h.1.outside hb hd,λs hs=>by obtain⟨xs,h1,h2⟩:=h.2 s hs;exact⟨xs,h1,h2.outside hb hd⟩⟩
theorem zbv.lower(h:zbv lo hi w v n ss)(hl:lo'<=lo)(hh:hi<=hi'):zbv lo' hi' w v n ss:=
 ⟨h.1.wide2 hl hh,λs hs=>by obtain⟨xs,h1,h2⟩:=h.2 s hs;exact⟨xs,h1,h2.lower hl hh⟩⟩
theorem zbv.nil(lo hi n:Nat)(w:World):zbv lo hi w () n []:=⟨zaa _ _ _ _ _,λs hs=>by cases hs⟩
theorem zbv.shape(h:zbv lo hi w v n ss):∃ a cap,v=.slice a ss cap:=by
 obtain⟨a,cap,e,_⟩:=h.1.open;exact⟨a,cap,e⟩
theorem Own.block {sz e:Nat} {a:Addr} {xs:List Value}(h:Own sz lo hi e w (.slice (some a) n cap) n xs):a=p_ a.block 0/\lo<=a.block/\a.block<hi/\∃ cur,w.heap[a.block]?=some (.cells cur e (0,0)):=by
 obtain⟨⟨_,h1⟩,h2⟩:=h;rcases h1 with⟨h1,_⟩|⟨g',cap',cur,e1,hb,hg,_⟩
 ·cases h1
 ·simp only[Value.slice.injEq,ar_,true_and]at e1
  obtain⟨rfl,_⟩:=e1;exact⟨rfl,hb,h2 _ rfl,cur,hg⟩
theorem zbv.sl(h:zbv lo hi w v n ss):∃ xss,za5 lo hi w v xss/\xss.length=ss.length/\∀ x∈xss,x.length=n:=by
 have key:∀ ss:List Value,(∀ s∈ss,∃ xs:List Int,xs.length=n/\γ lo hi 3 w s xs)->∃ xss:List (List Int),xss.length=ss.length/\(∀ x∈xss,x.length=n)/\∀ i (h1:i<ss.length) (h2:i<xss.length),SlI lo hi w ss[i] xss[i]:=by
  intro ss
  induction ss with
  | nil=>intro _;exact⟨[],rfl,(λx hx=>by cases hx),λi h1=>by simp at h1⟩
  | cons s r ih=>
   intro hs;obtain⟨xss,h1,h2,h3⟩:=ih λx hx=>hs x (by simp[hx])
   obtain⟨xs,h4,h5⟩:=hs s (by simp);refine⟨xs :: xss,by simp[h1],λx hx=>?_,λi hi1 hi2=>?_⟩
   ·rcases N_.1 hx with rfl|hx
    ·exact h4
    ·exact h2 x hx
   ·cases i with
    | zero=>exact h5.sl
    | succ i=>exact h3 i (by simpa using hi1) (by simpa using hi2)
 obtain⟨xss,h1,h2,h3⟩:=key ss h.2;refine⟨xss,?_,h1,h2⟩;obtain⟨a,cap,e,e1,e2,_,_,hc⟩:=h.1.sl;refine⟨a,cap,by rw[h1];exact e,by rw[h1];exact e1,e2,λi hi=>?_⟩;obtain⟨b,off,f1,f2,f3,f4,f5⟩:=hc i (by omega);exact⟨b,off,ss[i],f1,f2,f3,f4,by rw[f5,l_],h3 i (by omega) hi⟩
theorem zbv.push {v':Value} {xs:List Int}(h:zbv lo hi w v n ss)(hg:w.grownBy w' v.ownBlock)(ho:Own 1 lo hi' 22 w' v' (ss.length+1) (ss++[s]))
  (hs:γ lo hi' 3 w s xs) (hx:xs.length=n) (hh:hi<=hi'):zbv lo hi' w' v' n (ss++[s]):=by
 have kept:∀ {u:Value} {ys:List Int} {hj:Nat},γ lo hj 3 w u ys->γ lo hj 3 w' u ys:=by
  intro u ys hj hu;refine⟨hu.1.kept hg ?_,hu.2⟩;cases hub:u.ownBlock with
  | none=>exact .inl rfl
  | some k=>
   right
   intro e;rcases hu.1.2 with⟨rfl,_⟩|⟨g',cap',cur',rfl,_,hg',_⟩
   ·cases hub
   ·rcases h.1.1.2 with⟨rfl,_⟩|⟨gO,capO,curO,rfl,_,hgO,_⟩
    ·cases e
    ·simp only[Value.ownBlock,ar_]at hub e
     rw[hub,e]at hg';rw[hg']at hgO;injection hgO with hgO;injection hgO with _ h2 _;exact absurd h2 (by decide)
 refine⟨by rw[n_];exact ho,λu hu=>?_⟩;rcases E_.1 hu with hu|hu
 ·obtain⟨ys,h1,h2⟩:=h.2 u hu
  exact⟨ys,h1,(kept h2).lower (le_ _) hh⟩
 ·simp only[k_]at hu
  subst hu;exact⟨xs,hx,kept hs⟩
theorem zbv.row(h:zbv lo hi w v n ss){k:Nat}(hk:k<ss.length)(hn:0<n):
  ∃ gO cap gi ci,v=.slice (q_ gO 0) ss cap/\ss.length<=cap/\cap<=maxLen/\ss[k]=.slice (q_ gi 0) n ci/\n<=ci/\ci<=maxLen/\lo<=gO/\lo<=gi/\gi≠gO/\gO<w.heap.size/\gi<w.heap.size /\
   w.cell? (p_ gO k)=some ss[k]/\∀ j,j<n->w.frozen? (p_ gi j)=false/\∃ z:Int,w.cell? (p_ gi j)=some (.int .i64 z):=by
 rcases h.1.1.2 with⟨_,h0⟩|⟨gO,cap,cur,rfl,hb,hgO,hc1,hc2,hc3,htk⟩
 ·omega
 ·obtain⟨xs,hxn,ho⟩:=h.2 _ (u_ hk)
  rcases ho.1.2 with⟨_,h0⟩|⟨gi,ci,cur',hv,hbi,hgi,hi1,hi2,hi3,htki⟩
  ·omega
  ·refine⟨gO,cap,gi,ci,rfl,hc1,hc2,by rw[hv,hxn],by omega,hi2,hb,hbi,λe=>?_,(L_.1 hgO).1,(L_.1 hgi).1,?_,λj hj=>⟨by simp[World.frozen?,hgi],xs[j],?_⟩⟩
   ·rw[e,hgO]at hgi
    injection hgi with hgi;injection hgi with _ h2 _;exact absurd h2 (by decide)
   ·(have:=h.1.1.cells (g:=gO) rfl k ss[k] (l_ hk))
    rwa [a5_,U_]at this
   ·(have:=ho.1.cells (g:=gi) (by rw[hv];rfl) j (.int .i64 xs[j]) (zgj xs j (by omega)))
    rwa [a5_,U_]at this
def zc1(lo hi:Nat)(w:World)(v:Value)(ss:List Value):Prop:=
 Own 1 lo hi 22 w v ss.length ss/\∀ s∈ss,∃ xs:List Int,xs.length<=6/\γ lo hi 3 w s xs
theorem zbv.any(h:zbv lo hi w v n ss)(hn:n<=6):zc1 lo hi w v ss:=
 ⟨h.1,λs hs=>by obtain⟨xs,h1,h2⟩:=h.2 s hs;exact⟨xs,by omega,h2⟩⟩
theorem zc1.below(h:zc1 lo hi w v ss)(hb:Below B w w')(hB:hi<=B):zc1 lo hi w' v ss:=
 ⟨h.1.below hb hB,λs hs=>by obtain⟨xs,h1,h2⟩:=h.2 s hs;exact⟨xs,h1,h2.below hb hB⟩⟩
theorem zc1.outside(h:zc1 lo hi w v ss)(hb:β lo' hi' w w')(hd:hi<=lo'\/hi'<=lo):zc1 lo hi w' v ss:=
 ⟨h.1.outside hb hd,λs hs=>by obtain⟨xs,h1,h2⟩:=h.2 s hs;exact⟨xs,h1,h2.outside hb hd⟩⟩
theorem zc1.lower(h:zc1 lo hi w v ss)(hl:lo'<=lo)(hh:hi<=hi'):zc1 lo' hi' w v ss:=
 ⟨h.1.wide2 hl hh,λs hs=>by obtain⟨xs,h1,h2⟩:=h.2 s hs;exact⟨xs,h1,h2.lower hl hh⟩⟩
theorem zc1.put {xs:List Int}(h:zc1 lo hi w (.slice (q_ g 0) n cap) ss)(hn:n=ss.length)(hs:γ lo hi 3 w s xs)(hx:xs.length<=6)(j:Nat):
  zc1 lo hi (w.setCell (p_ g j) s) (.slice (q_ g 0) n cap) (ss.set j s)/\β lo hi w (w.setCell (p_ g j) s):=by
 subst hn;obtain⟨_,hg1,hg2,cur,hcur⟩:=Own.block h.1;simp only at hg1 hg2 hcur;have hO:β lo hi w (w.setCell (p_ g j) s):=(β.refl _ _ _).setCell (p:=p_ g j) hg1 hg2 _
 have kept:∀ {u:Value} {ys:List Int},γ lo hi 3 w u ys->γ lo hi 3 (w.setCell (p_ g j) s) u ys:=by
  intro u ys hu;rcases hu.1.2 with⟨h1,h0⟩|⟨g',cap',cur',e1,hb,hg',hrest⟩
  ·exact⟨⟨hu.1.1,.inl ⟨h1,h0⟩⟩,hu.2⟩
  ·refine⟨⟨hu.1.1,.inr ⟨g',cap',cur',e1,hb,?_,hrest⟩⟩,hu.2⟩
   rw[heap_setCell_other w (p_ g j) g' _ (λe=>by
    (have e:g'=g:=by simpa using e);subst e;rw[hcur]at hg';injection hg' with hg';injection hg' with _ h2 _;exact absurd h2 (by decide))]
   exact hg'
 refine⟨⟨?_,λu hu=>?_⟩,hO⟩
 ·rw[bw_]
  exact⟨(dn_ h.1.1 j s).1,h.1.2⟩
 ·rcases List.mem_or_eq_of_mem_set hu with hu|rfl
  ·obtain⟨ys,h1,h2⟩:=h.2 u hu
   exact⟨ys,h1,kept h2⟩
  ·exact⟨xs,hx,kept hs⟩
theorem zc1.sl(h:zc1 lo hi w v ss):∃ xss,za5 lo hi w v xss/\xss.length=ss.length/\∀ x∈xss,x.length<=6:=by
 have key:∀ ss:List Value,(∀ s∈ss,∃ xs:List Int,xs.length<=6/\γ lo hi 3 w s xs)->∃ xss:List (List Int),xss.length=ss.length/\(∀ x∈xss,x.length<=6)/\∀ i (h1:i<ss.length) (h2:i<xss.length),SlI lo hi w ss[i] xss[i]:=by
  intro ss
  induction ss with
  | nil=>intro _;exact⟨[],rfl,(λx hx=>by cases hx),λi h1=>by simp at h1⟩
  | cons s r ih=>
   intro hs;obtain⟨xss,h1,h2,h3⟩:=ih λx hx=>hs x (by simp[hx])
   obtain⟨xs,h4,h5⟩:=hs s (by simp);refine⟨xs :: xss,by simp[h1],λx hx=>?_,λi hi1 hi2=>?_⟩
   ·rcases N_.1 hx with rfl|hx
    ·exact h4
    ·exact h2 x hx
   ·cases i with
    | zero=>exact h5.sl
    | succ i=>exact h3 i (by simpa using hi1) (by simpa using hi2)
 obtain⟨xss,h1,h2,h3⟩:=key ss h.2;refine⟨xss,?_,h1,h2⟩;obtain⟨a,cap,e,e1,e2,_,_,hc⟩:=h.1.sl;refine⟨a,cap,by rw[h1];exact e,by rw[h1];exact e1,e2,λi hi=>?_⟩;obtain⟨b,off,f1,f2,f3,f4,f5⟩:=hc i (by omega);exact⟨b,off,ss[i],f1,f2,f3,f4,by rw[f5,l_],h3 i (by omega) hi⟩
theorem za5.nil(lo hi:Nat)(w:World):za5 lo hi w () []:=⟨none,0,rfl,le_ _,by decide,λi h=>by simp at h⟩
theorem za5.tail {x:List Int} {r:List (List Int)}(h:za5 lo hi w (.slice (q_ g 0) n cap) (x :: r))(hc:n<=cap):za5 lo hi w (.slice (q_ g 1) (n-1) (cap-1)) r:=by
 obtain⟨a,cap',e,h1,h2,h3⟩:=h;injection e with e1 e2 e3;subst e1 e2 e3;simp only[I_]at h1 ⊢;refine⟨some ⟨g,1,none⟩,cap-1,by simp,by omega,by omega,λi hi=>?_⟩;obtain⟨b,off,u,f1,f2,f3,f4,f5,f6⟩:=h3 (i+1) (by simpa using hi);injection f1 with f1;injection f1 with f1 f1' _;subst f1 f1';exact⟨g,1,u,rfl,f2,f3,f4,by rw[<-f5,U_,Nat.add_comm],by simpa using f6⟩
end Go.Proofs.YtfnnhimopokpnaaGreatDoor
