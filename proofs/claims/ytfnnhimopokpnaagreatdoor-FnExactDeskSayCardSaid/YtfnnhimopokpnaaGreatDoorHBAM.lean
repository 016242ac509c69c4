/- Lemmas for this seat; no condition. -/
import Derived.Test.YtfnnhimopokpnaaGreatDoorHBAL
import Derived.Deep.DrawnRows
namespace Go.Proofs.YtfnnhimopokpnaaGreatDoor
open Go.RowKit Proofs.Tryz
set_option maxRecDepth 100000
set_option maxHeartbeats 0
set_option linter.all false
variable {lo hi B lo' hi' n cap g:Nat} {w w':World} {v:Value} {xss:List (List Int)} {ss:List Value}
def zex(P:Value->Value->Value->Value->ByteArray->World->Prop)(e:Ending)(w':World):Prop:=∃ a b c d s,e=.returned (.tuple #[ν a b c d,.string s])/\P a b c d s w'
def okS(b:Bool):ByteArray:=if b then ⟨#[111,107]⟩ else ⟨#[110,111]⟩
theorem zq5 {o:Option Ac} {a:Ac}(h:o=some a):zb4 o=.tuple #[zgq a,.bool true]:=by subst h;rfl
theorem z0u(lo hi:Nat)(a b c d:Value)(D:Dsk)(A:Ac)(l:List UInt8)(s:ByteArray)(hs:s=⟨l.toArray⟩)(w:World)(hE:zao w)(hN:Env w)(hx:Η lo hi w a b c d D)(hh:hi<=w)(hm:D.size<=1048576)(hv:ω D=true)(hl:l.length<=2097152)(hr:za7 l=some A):
  Calls prog 20 #[ν a b c d,.string s] w (zex λa' b' c' d' s' w'=>s'=okS (Φ D A).2/\Ζ w w' w' a' b' c' d' (Φ D A).1/\Below w w w'):=by
 subst hs;have HM:=H_ hm;have⟨w0,hw0⟩:=ex_ ((w.alloc (.cells #[a,b,c,d] 31)).alloc (.cells #[(),(),(),()] 31));have hb0:Below w w w0:=by rw[hw0];exact((B_ _ _).alloc (le_ _) _).alloc (by simp) _
 have hs0:w0=w.heap.size+2:=by rw[hw0];simp
 have K1:Q_ (Blk w (.cells #[a,b,c,d] 31) w0):=by
  rw[hw0];exact H_ ((θ w _).below ((B_ (w.alloc _).heap.size _).alloc (le_ _) _) (by simp))
 have K3:Q_ (Blk (w+1) (.cells #[(),(),(),()] 31) w0):=by
  have h:=θ (w.alloc (.cells #[a,b,c,d] 31)) (.cells #[(),(),(),()] 31);rw[κ]at h;rw[hw0];exact H_ h
 have HX:=H_ (hx.below hb0 hh);have HB:=H_ hb0;have HE:=H_ (hE.below hb0);have HN:=H_ (hN.below hb0);have HW0:=H_ hw0;have HV:=H_ hv;have HRA:=H_ hr;clear hx hE hN hb0 hw0 hv hr hm;have⟨d0,d1,d2,d3⟩:=K1.o.c4
 go_enter func20,ntmps20
 go_wp2_with (rw[<-HW0.o])
 refine(zgs _ _ a b c d D w0 HE.o HX.o (by omega) HM.o).mono ?_;rintro e1 w1 ⟨rfl,hb1⟩;rw[HV.o];have hs1:=hb1.size;replace HB:=HB.tr hb1 (by omega);replace K1:=K1.kb hb1;replace K3:=K3.kb hb1;replace HX:=H_ (HX.o.below hb1 (by omega));replace HE:=H_ (HE.o.below hb1);replace HN:=H_ (HN.o.below hb1);clear hb1 d0 d1 d2 d3;go_wp2_with fail
 refine(zpk l _ rfl w1 HN.o hl).mono ?_;rintro e2 w2 ⟨rfl,hb2⟩;rw[zq5 HRA.o];unfold zgq;have hs2:=hb2.size;replace HB:=HB.tr hb2 (by omega);replace K1:=K1.kb hb2;replace K3:=K3.kb hb2;replace HX:=H_ (HX.o.below hb2 (by omega));replace HE:=H_ (HE.o.below hb2);clear hb2 HN;have⟨w3,hw3⟩:=xa_ w2 #[.int .i64 A.kind,.int .i64 A.step.which,.bool A.step.back,.int .i64 A.step.at_,.int .i64 A.count] 69;obtain⟨hb3,KA_,hs3⟩:=zah hw3;have KA:=H_ KA_;replace HB:=HB.tr hb3 (by omega);replace K1:=K1.kb hb3;replace K3:=K3.kb hb3;replace HX:=H_ (HX.o.below hb3 (by omega));replace HE:=H_ (HE.o.below hb3);have⟨d0,d1,d2,d3⟩:=K1.o.c4;have⟨a0,a1,a2,a3,a4⟩:=KA.o.c5;rw[hw3]at d0 d1 d2 d3 a0 a1 a2 a3 a4;clear hb3 KA_;go_wp2_with fail
 simp only[<-hw3];clear hw3 d0 d1 d2 d3 a0 a1 a2 a3 a4;refine(zzt _ _ a b c d D A w3 HE.o HX.o (by omega) HM.o).mono ?_;rintro e4 w4 ⟨x0,x1,x2,x3,ok,rfl,o_,hok,hb4⟩;obtain⟨R,t,hR⟩:∃ R t,Φ D A=(R,t):=⟨_,_,rfl⟩;have HR:=H_ hR;rw[hR]at o_ hok;obtain rfl:ok=t:=hok;clear hR;obtain⟨z0,z1,z2,z3,z4,z5,z6,z7,rfl,rfl,rfl,rfl⟩:=o_.open;have hs4:=hb4.size;replace HB:=HB.tr hb4 (by omega);replace K3:=K3.kb hb4;have O4:=H_ (o_.wide (lo':=w.heap.size) (by omega) (le_ _));have O4':=H_ o_;clear hb4 o_ K1 HX HE KA;have⟨w5,hw5⟩:=xa_ w4 #[(.slice z0 R.first z1),(.slice z2 R.goal z3),(.slice z4 R.made z5),(.slice z6 R.now z7)] 31;obtain⟨hb5,K5,hs5⟩:=zah hw5;replace HB:=HB.tr hb5 (by omega);replace K3:=K3.kb hb5;replace O4':=H_ (O4'.o.below hb5 (le_ _));obtain⟨k0,k1,k2,k3⟩:=K5.c4;have⟨c0,c1,c2,c3⟩:=K3.o.c4;have⟨f0,f1,f2,f3⟩:=K3.o.f4;have HW5:=H_ hw5;have⟨wz,hwz⟩:=x4_ w5 (w+1) (.slice z0 R.first z1) (.slice z2 R.goal z3) (.slice z4 R.made z5) (.slice z6 R.now z7);have KZ:=K3.o.set4 (.slice z0 R.first z1) (.slice z2 R.goal z3) (.slice z4 R.made z5) (.slice z6 R.now z7);have hO:=β.set4 (w+1) w5 (.slice z0 R.first z1) (.slice z2 R.goal z3) (.slice z4 R.made z5) (.slice z6 R.now z7);rw[<-hwz]at KZ hO;have hsz:=hO.size;have HZ:=H_ (δ HB.o hO (by omega) (by omega));have OZ:=H_ (O4'.o.outside hO (.inr (by omega)));obtain⟨q0,q1,q2,q3⟩:=KZ.c4;rw[hw5]at k0 k1 k2 k3 c0 c1 c2 c3 f0 f1 f2 f3 hwz;clear KZ hO hb5 K5 hw5;cases ok
 all_goals (
  go_wp2_with fail
  simp only[<-hwz])
 ·refine a_ (v:=.tuple #[ν (.slice z0 R.first z1) (.slice z2 R.goal z3) (.slice z4 R.made z5) (.slice z6 R.now z7),.string ⟨#[110,111]⟩]) (by simp[results,results20,go_sem,q0,q1,q2,q3]) rfl ⟨_,_,_,_,_,rfl,?_,?_,HZ.o⟩
  ·rw[HR.o];rfl
  ·rw[HR.o];exact OZ.o.wide (by omega) (by omega)
 ·refine a_ (v:=.tuple #[ν (.slice z0 R.first z1) (.slice z2 R.goal z3) (.slice z4 R.made z5) (.slice z6 R.now z7),.string ⟨#[111,107]⟩]) (by simp[results,results20,go_sem,q0,q1,q2,q3]) rfl ⟨_,_,_,_,_,rfl,?_,?_,HZ.o⟩
  ·rw[HR.o];rfl
  ·rw[HR.o];exact OZ.o.wide (by omega) (by omega)
theorem zor(lo hi:Nat)(v:Value)(xs:List Int)(x:Int)(w:World)(hx:SlI lo hi w v xs)(hm:xs.length<=1048576):
  Calls prog 203 #[v,.int .i64 x] w λe w'=>e=.returned (decide (x∈xs))/\w=w':=by
 have HC:Q_ (Calls prog 227 #[v,.int .i64 x] w λe w'=>∃ n:Int,e=.returned n/\(0<=n↔x∈xs)/\w=w'):=by
  apply H_;obtain⟨a,cap,rfl,hcap,hcm,_⟩:=hx.open;have HX:=H_ hx;clear hx hcm hcap
  go_enter func227,ntmps227
  go_wp2
  go_loop [8] (λi=>∃ k:Nat,k<=xs.length/\i=.int .i64 k/\Q_ (∀ j (h1:j<k) (h2:j<xs.length),xs[j]≠x)) (λi=>xs.length-(intOf i).toNat)
  case atStart=>exact⟨0,by omega,rfl,H_ (by intro j h;omega)⟩
  case round=>
   obtain⟨k,hk,rfl,HN⟩:=hrel;by_cases hlt:k<xs.length
   ·(obtain⟨b,off,rfl,_,_,_,hcell⟩:=HX.o.get k hlt);cases hq:x==xs[k]
    ·go_wp2
     go_round
     case rel=>
      refine⟨k+1,by omega,by go_num,H_ ?_⟩;intro j h1 h2;by_cases hj:j<k
      ·exact HN.o j hj h2
      ·(obtain rfl:j=k:=by omega);intro e;rw[e]at hq;simp at hq
     case measure=>simp[intOf];omega
    ·(have e:x=xs[k]:=by simpa using hq)
     have hmem:x∈xs:=by
      rw[e];exact k_ hlt
     have HI:Q_ ((0:Int)<=(k:Int)↔x∈xs):=H_ ⟨λ_=>hmem,λ_=>by omega⟩;clear e hmem;go_wp2;go_ret;exact⟨_,rfl,HI.o,rfl⟩
   ·have hno:¬x∈xs:=by
     intro h;obtain⟨j,hj,e⟩:=ae_ h;exact HN.o j (by omega) hj e
    have HI:Q_ ((0:Int)<=-1↔x∈xs):=H_ ⟨λh=>absurd h (by omega),λh=>absurd h hno⟩;clear hno;go_wp2;go_ret;exact⟨_,rfl,HI.o,rfl⟩
 obtain⟨a,cap,rfl,_,_,_⟩:=hx.open;clear hx
 go_enter func203,ntmps203
 go_wp2_with fail
 refine HC.o.mono ?_;rintro e _ ⟨n,rfl,hn,rfl⟩;have HN:=H_ hn;clear hn HC;go_wp2;go_ret;have h2:decide (0<=n)=decide (x∈xs):=decide_eq_decide.2 HN.o;exact⟨by rw[<-h2];rfl,rfl⟩
section
def zat(t:KT)(S:List Int):List UInt8:=if t.root∈S then [40]++ς t 1++[41] else ς t 1
theorem zi9 {t:KT}(h:t.ok 0=true):ς t 2=zat t [20]:=by
 cases t with
 | leaf n=>
  simp only[KT.ok,d_,m_]at h;rw[zat,j_ (by simp[KT.root];omega)];rfl
 | star t=>rw[zat,j_ (by simp[KT.root])];rfl
 | bin p a b=>cases p<;>simp[zat,KT.root,KT.op,zig,zkv,zhr,zld]
theorem zju {t:KT}(h:t.ok 0=true):ς t 3=zat t [20,19]/\ς t 3=zat t [19,20]:=by
 cases t with
 | leaf n=>
  simp only[KT.ok,d_,m_]at h;rw[zat,zat,j_ (by simp[KT.root];omega),j_ (by simp[KT.root];omega)];exact⟨rfl,rfl⟩
 | star t=>rw[zat,zat,j_ (by simp[KT.root]),j_ (by simp[KT.root])];exact⟨rfl,rfl⟩
 | bin p a b=>cases p<;>simp[zat,KT.root,KT.op,zig,zlp,zhr,zky]
def TxC(t:KT):Prop:=∀ (lo:Nat) (p:Value) (w:World),RT lo none w t p->t.ok 0=true->t.size<=40->zc4 w ->
 Calls prog 133 #[p] w λe w'=>e=.returned (.string ⟨(ς t 1).toArray⟩)/\Below w w w'
theorem zjs(t:KT)(ht:TxC t)(lo lo' hi':Nat)(p v:Value)(S:List Int)(w:World)(hp:RT lo none w t p)(hok:t.ok 0=true)(hs:t.size<=40)(hM:zc4 w)(hx:SlI lo' hi' w v S)(hm:S.length<=100):
  Calls prog 177 #[p,v] w λe w'=>e=.returned (.string ⟨(zat t S).toArray⟩)/\Below w w w':=by
 have HC:=H_ (ht lo p w hp hok hs hM);have hb1:(ς t 1).length<=199:=zd6 hok hs 1 (by omega);obtain⟨ps,⟨b,kv,rfl,_,_,hblk,_⟩,_⟩:=hp.node;obtain⟨a,cap,rfl,_,_⟩:=τ hx;have HX:=H_ hx;have c0:=hblk.cell 0;clear hx ht hp;by_cases hin:t.root∈S
 ·have HT:=H_ (show zat t S=[40]++ς t 1++[41] by rw[zat,l_ hin])
  have hd:=bl_ hin
  go_enter func177,ntmps177
  go_wp2_with fail
  refine(zor _ _ _ S t.root w HX.o (by omega)).mono ?_;rintro e w1 ⟨rfl,rfl⟩;rw[hd];go_wp2_with fail
  refine HC.o.mono ?_;rintro e w2 ⟨rfl,hb⟩;have HB:=H_ hb;clear hb;go_wp2;go_ret;exact⟨by rw[HT.o,<-zbn,<-zbn];rfl,HB.o⟩
 ·have HT:=H_ (show zat t S=ς t 1 by rw[zat,j_ hin])
  have hd:=dn_ hin
  go_enter func177,ntmps177
  go_wp2_with fail
  refine(zor _ _ _ S t.root w HX.o (by omega)).mono ?_;rintro e w1 ⟨rfl,rfl⟩;rw[hd];go_wp2_with fail
  refine HC.o.mono ?_;rintro e w2 ⟨rfl,hb⟩;have HB:=H_ hb;clear hb;go_wp2;go_ret;exact⟨by rw[HT.o];rfl,HB.o⟩
theorem zv4(n:Int):TxC (.leaf n):=by
 intro lo p w hp hok hs hM;obtain⟨ps,⟨b,kv,rfl,_,_,hblk,_⟩,_⟩:=hp.node;have c0:w.cell? (p_ b 0)=some (.int .i64 n):=hblk.cell 0;simp only[KT.ok,d_,m_]at hok;obtain⟨hn0,hn18⟩:=hok;clear hp;by_cases h15:n<=15
 ·obtain⟨m,rfl⟩:∃ m:Nat,n=m:=⟨n.toNat,by omega⟩
  have HT:=H_ (show ς (.leaf (m:Int)) 1=Ρ m by rw[zle,l_ h15];rfl);have hia:zae (m:Int)=false:=by simp[zae];omega
  have q1:((m:Int)==19)=false:=by simp;omega
  have q2:((m:Int)==20)=false:=by simp;omega
  have q3:((m:Int)==21)=false:=by simp;omega
  have HM:=H_ hM;clear hM
  go_enter func133,ntmps133
  go_wp2_with fail
  refine(zbt _ w).mono ?_;rintro e w1 ⟨rfl,rfl⟩;rw[hia];go_wp2_with fail
  refine(zit m (by omega) w HM.o).mono ?_;rintro e w1 ⟨rfl,rfl⟩;go_wp2;go_ret;exact⟨by rw[HT.o];rfl,B_ _ _⟩
 ·have h3:n=16\/n=17\/n=18:=by omega
  clear hM h15;rcases h3 with rfl|rfl|rfl
  all_goals (
   go_enter func133,ntmps133
   go_wp2_with fail
   refine(zbt _ w).mono ?_;rintro e w1 ⟨rfl,rfl⟩;go_wp2;go_ret;exact⟨rfl,B_ _ _⟩)
theorem zsc(x:KT)(ih:TxC x):TxC (.star x):=by
 intro lo p w hp hok hs hM;have hokx:x.ok 0=true:=hok;simp only[KT.size]at hs;have hb3:(ς x 3).length<=199:=zd6 hokx (by omega) 3 (by omega);have HT:=H_ (show ς (.star x) 1=zat x [19,20]++[42] by rw[zma,(zju hokx).2]);have hbl:(zat x [19,20]).length<=199:=by rw[<-(zju hokx).2];exact hb3
 obtain⟨ps,⟨b,kv,rfl,_,_,hblk,a,cap,rfl,hpc,hcm,hkid⟩,hstk⟩:=hp.node;have hpl:=hstk.length;simp only[KT.kids,y_,O_]at hpl
 obtain⟨u0,rfl⟩:∃ u0,ps=[u0]:=by
  match ps,hpl with
  | [x],_=>exact⟨x,rfl⟩
 obtain⟨gk,ok,rfl,_,_,hgk,kc0⟩:=hkid 0 (by simp);have hu:RT lo none w x u0:=hstk.1;have c0:w.cell? (p_ b 0)=some (.int .i64 21):=hblk.cell 0;have c1:w.cell? (p_ b 1)=some (.slice (some ⟨gk,ok,none⟩) 1 cap):=hblk.cell 1;have kc:w.cell? (p_ gk ok)=some u0:=kc0;have hb1:=ε w (.cells #[(19:Int),(20:Int)] 3)
 have HC:=H_ (zjs x ih lo w (w+1) u0 (.slice (some ⟨w,0,none⟩) 2 2) [19,20] (w.alloc (.cells #[(19:Int),(20:Int)] 3)) (hu.below hb1) hokx (by omega) (hM.below hb1)
  (zce (π 1 3 w (ints [19,20]) 2 (by omega) rfl)) (by simp))
 have HB1:=H_ hb1;clear hp hM hu hstk hkid hblk kc0 hb1;have q1:zae 21=false:=by decide
 go_enter func133,ntmps133
 go_wp2_with fail
 refine(zbt _ w).mono ?_;rintro e w1 ⟨rfl,rfl⟩;rw[q1];go_wp2_with fail
 refine HC.o.mono ?_;rintro e w2 ⟨rfl,hb⟩;have HB:=H_ (HB1.o.trans (hb.mono (by rw[κ];omega)));clear hb;go_wp2;go_ret;exact⟨by rw[HT.o,<-zbn];rfl,HB.o⟩
end
section
theorem zw0(x y:KT)(ihx:TxC x)(ihy:TxC y):TxC (.bin false x y):=by
 intro lo p w hp hok hs hM;simp only[KT.ok,d_]at hok;obtain⟨hokx,hoky⟩:=hok;simp only[KT.size]at hs;have hbx:(zat x [20]).length<=199:=by rw[<-zi9 hokx];exact zd6 hokx (by omega) 2 (by omega)
 have hby:(zat y [20,19]).length<=199:=by rw[<-(zju hoky).1];exact zd6 hoky (by omega) 3 (by omega)
 have HT:=H_ (show ς (.bin false x y) 1=zat x [20]++[59]++zat y [20,19] by rw[zhr,zi9 hokx,(zju hoky).1];simp);obtain⟨ps,⟨b,kv,rfl,_,_,hblk,a,cap,rfl,hpc,hcm,hkid⟩,hstk⟩:=hp.node;have hpl:=hstk.length;simp only[KT.kids,y_,O_]at hpl
 obtain⟨u0,u1,rfl⟩:∃ u0 u1,ps=[u0,u1]:=by
  match ps,hpl with
  | [x,y],_=>exact⟨x,y,rfl⟩
 obtain⟨gk,ok,rfl,_,_,hgk,kc0⟩:=hkid 0 (by simp);obtain⟨gk',ok',e1,_,_,_,kc1⟩:=hkid 1 (by simp);injection e1 with e1;injection e1 with e1 e2;subst e1 e2;have HU0:=H_ hstk.1;have HU1:=H_ hstk.2.1;have HMT:=H_ hM
 have HW0:Q_ (∀ (w':World) (lo' hi':Nat) (v:Value),Below w w w'->SlI lo' hi' w' v [20]->Calls prog 177 #[u0,v] w' λe w2=>e=.returned (.string ⟨(zat x [20]).toArray⟩)/\Below w' w' w2):=
  H_ λw' lo' hi' v hb hr=>zjs x ihx lo lo' hi' u0 v [20] w' (zc6 HU0.o hb) hokx (by omega) (hM.below hb) hr (by simp)
 have HW1:Q_ (∀ (w':World) (lo' hi':Nat) (v:Value),Below w w w'->SlI lo' hi' w' v [20,19]->Calls prog 177 #[u1,v] w' λe w2=>e=.returned (.string ⟨(zat y [20,19]).toArray⟩)/\Below w' w' w2):=
  H_ λw' lo' hi' v hb hr=>zjs y ihy lo lo' hi' u1 v [20,19] w' (zc6 HU1.o hb) hoky (by omega) (hM.below hb) hr (by simp)
 have hgs:∀ w',Below w w w'->w'.cell? (p_ b 0)=some (.int .i64 19)/\w'.cell? (p_ b 1)=some (.slice (some ⟨gk,ok,none⟩) 2 cap)/\w'.cell? (p_ gk ok)=some u0/\w'.cell? (p_ gk (ok+1))=some u1:=λw' hb=>
  ⟨(hblk.below hb hblk.lt).cell 0,(hblk.below hb hblk.lt).cell 1,(hb.cell (p:=p_ gk ok) hgk).trans kc0,(hb.cell (p:=p_ gk (ok+1)) hgk).trans kc1⟩
 obtain⟨c0,c1,kc0',kc1'⟩:=hgs w (B_ _ _);have HGS:=H_ hgs;have q1:zae 19=false:=by decide
 have hbA:Below w w ((w.alloc (.cells #[(20:Int)] 3)).drew):=n_ (ε _ _);have hbB:Below w w (((w.alloc (.cells #[(20:Int)] 3)).alloc (.cells #[(20:Int),(19:Int)] 3)).drew):=n_ ((ε w _).alloc (by simp) _);have hbC:Below w w (((w.alloc (.cells #[(20:Int),(19:Int)] 3)).alloc (.cells #[(20:Int)] 3)).drew):=n_ ((ε w _).alloc (by simp) _);have hrA:SlI w (w+1) ((w.alloc (.cells #[(20:Int)] 3)).drew) (.slice (some ⟨w,0,none⟩) 1 1) [20]:=zce (π 1 3 w (ints [20]) 1 (by omega) rfl);have hzB:(((w.alloc (.cells #[(20:Int)] 3)).alloc (.cells #[(20:Int),(19:Int)] 3)).drew).heap.size=w.heap.size+2:=by show ((w.alloc _).alloc _).heap.size=_;simp
 have hzC:(((w.alloc (.cells #[(20:Int),(19:Int)] 3)).alloc (.cells #[(20:Int)] 3)).drew).heap.size=w.heap.size+2:=by show ((w.alloc _).alloc _).heap.size=_;simp
 have hrB1:SlI w (w+1) (((w.alloc (.cells #[(20:Int)] 3)).alloc (.cells #[(20:Int),(19:Int)] 3)).drew) (.slice (some ⟨w,0,none⟩) 1 1) [20]:=by
  have h:Own 1 w (w+1) 3 ((w.alloc (.cells #[(20:Int)] 3)).alloc (.cells #[(20:Int),(19:Int)] 3)) (.slice (some ⟨w,0,none⟩) 1 1) 1 (ints [20]):=zeu (π 1 3 w (ints [20]) 1 (by omega) rfl) (ε _ _) (by rw[κ];exact le_ _);exact zce h
 have hrB2:SlI (w+1) (w.heap.size+1+1) (((w.alloc (.cells #[(20:Int)] 3)).alloc (.cells #[(20:Int),(19:Int)] 3)).drew) (.slice (some ⟨w+1,0,none⟩) 2 2) [20,19]:=by
  have h:=π 1 3 (w.alloc (.cells #[(20:Int)] 3)) (ints [20,19]) 2 (by omega) rfl;rw[κ]at h;exact zce h
 have hrC2:SlI w (w+1) (((w.alloc (.cells #[(20:Int),(19:Int)] 3)).alloc (.cells #[(20:Int)] 3)).drew) (.slice (some ⟨w,0,none⟩) 2 2) [20,19]:=by
  have h:Own 1 w (w+1) 3 ((w.alloc (.cells #[(20:Int),(19:Int)] 3)).alloc (.cells #[(20:Int)] 3)) (.slice (some ⟨w,0,none⟩) 2 2) 2 (ints [20,19]):=zeu (π 1 3 w (ints [20,19]) 2 (by omega) rfl) (ε _ _) (by rw[κ];exact le_ _);exact zce h
 have hrC1:SlI (w+1) (w.heap.size+1+1) (((w.alloc (.cells #[(20:Int),(19:Int)] 3)).alloc (.cells #[(20:Int)] 3)).drew) (.slice (some ⟨w+1,0,none⟩) 1 1) [20]:=by
  have h:=π 1 3 (w.alloc (.cells #[(20:Int),(19:Int)] 3)) (ints [20]) 1 (by omega) rfl;rw[κ]at h;exact zce h
 have hSA:=hgs _ hbA;have hSB:=hgs _ hbB;have hSC:=hgs _ hbC;have hSD:=hgs w.drew (n_ (B_ _ _));clear hp hM hstk hkid hblk hgs
 go_enter func133,ntmps133
 go_wp2_with fail
 refine(zbt _ w).mono ?_;rintro e w1 ⟨rfl,rfl⟩;rw[q1];go_upto_region 4 with fail
 first
 | (go_region_held_law (λw'=>w'.cell? (p_ b 0)=some (.int .i64 19)/\w'.cell? (p_ b 1)=some (.slice (some ⟨gk,ok,none⟩) 2 cap)/\w'.cell? (p_ gk ok)=some u0/\w'.cell? (p_ gk (ok+1))=some u1) (first | with_reducible assumption | go_keep) (first
  | ((have g_:=HR2);go_at_call 177;(with_reducible show Calls _ _ _ w2 _);refine(HW1.o w2 _ _ _ H2.o HR2.o).mono ?_;rintro e3 w3 ⟨rfl,h_⟩;(have h3:Below w w w3:=H2.o.trans (h_.mono H2.o.size));(have hS3:=HGS.o w3 h3);(have H3:=H_ h3);clear h_ h3 g_)
  | ((have g_:=H2);go_at_call 177;(with_reducible show Calls _ _ _ (w2.alloc (.cells #[(20:Int),(19:Int)] 3)) _);refine(HW1.o (w2.alloc (.cells #[(20:Int),(19:Int)] 3)) _ _ _ (H2.o.alloc H2.o.size (.cells #[(20:Int),(19:Int)] 3)) (zce (π 1 3 w2 (ints [20,19]) 2 (by omega) rfl))).mono ?_;rintro e3 w3 ⟨rfl,h_⟩;(have h3:Below w w w3:=(H2.o.alloc H2.o.size (.cells #[(20:Int),(19:Int)] 3)).trans (h_.mono (H2.o.alloc H2.o.size (.cells #[(20:Int),(19:Int)] 3)).size));(have hS3:=HGS.o w3 h3);(have H3:=H_ h3);clear h_ h3 g_)
  | (go_at_call 177;(with_reducible show Calls _ _ _ ((w.alloc (.cells #[(20:Int)] 3)).drew) _);refine(HW0.o ((w.alloc (.cells #[(20:Int)] 3)).drew) _ _ _ hbA hrA).mono ?_;rintro e2 w2 ⟨rfl,h_⟩;(have h2:Below w w w2:=hbA.trans (h_.mono hbA.size));(have hS2:=HGS.o w2 h2);(have hSN2:=HGS.o (w2.alloc (.cells #[(20:Int),(19:Int)] 3)) (h2.alloc h2.size (.cells #[(20:Int),(19:Int)] 3)));(have H2:=H_ h2);clear h_ h2)
  | (go_at_call 177;(with_reducible show Calls _ _ _ (((w.alloc (.cells #[(20:Int)] 3)).alloc (.cells #[(20:Int),(19:Int)] 3)).drew) _);refine(HW0.o (((w.alloc (.cells #[(20:Int)] 3)).alloc (.cells #[(20:Int),(19:Int)] 3)).drew) _ _ _ hbB hrB1).mono ?_;rintro e2 w2 ⟨rfl,h_⟩;(have h2:Below w w w2:=hbB.trans (h_.mono hbB.size));(have hS2:=HGS.o w2 h2);(have hSN2:=HGS.o (w2.alloc (.cells #[(20:Int),(19:Int)] 3)) (h2.alloc h2.size (.cells #[(20:Int),(19:Int)] 3)));(have H2:=H_ h2);(have HR2:=H_ ((hrB2.below h_ (by show w.heap.size+1+1<=_;rw[hzB];exact le_ _))));clear h_ h2)
  | (go_at_call 177;(with_reducible show Calls _ _ _ (((w.alloc (.cells #[(20:Int),(19:Int)] 3)).alloc (.cells #[(20:Int)] 3)).drew) _);refine(HW0.o (((w.alloc (.cells #[(20:Int),(19:Int)] 3)).alloc (.cells #[(20:Int)] 3)).drew) _ _ _ hbC hrC1).mono ?_;rintro e2 w2 ⟨rfl,h_⟩;(have h2:Below w w w2:=hbC.trans (h_.mono hbC.size));(have hS2:=HGS.o w2 h2);(have hSN2:=HGS.o (w2.alloc (.cells #[(20:Int),(19:Int)] 3)) (h2.alloc h2.size (.cells #[(20:Int),(19:Int)] 3)));(have H2:=H_ h2);(have HR2:=H_ ((hrC2.below h_ (by show w.heap.size+1<=_;rw[hzC];omega))));clear h_ h2)))
 | fail
 all_goals (
  go_wp2;go_ret;exact⟨by rw[HT.o,<-zbn,<-zbn];rfl,H3.o⟩)
theorem zz8(x y:KT)(ihx:TxC x)(ihy:TxC y):TxC (.bin true x y):=by
 intro lo p w hp hok hs hM;simp only[KT.ok,d_]at hok;obtain⟨hokx,hoky⟩:=hok;simp only[KT.size]at hs;have hbx:(ς x 1).length<=199:=zd6 hokx (by omega) 1 (by omega);have hby:(zat y [20]).length<=199:=by rw[<-zi9 hoky];exact zd6 hoky (by omega) 2 (by omega)
 have HT:=H_ (show ς (.bin true x y) 1=ς x 1++[43]++zat y [20] by rw[zig,zi9 hoky];simp);obtain⟨ps,⟨b,kv,rfl,_,_,hblk,a,cap,rfl,hpc,hcm,hkid⟩,hstk⟩:=hp.node;have hpl:=hstk.length;simp only[KT.kids,y_,O_]at hpl
 obtain⟨u0,u1,rfl⟩:∃ u0 u1,ps=[u0,u1]:=by
  match ps,hpl with
  | [x,y],_=>exact⟨x,y,rfl⟩
 obtain⟨gk,ok,rfl,_,_,hgk,kc0⟩:=hkid 0 (by simp);obtain⟨gk',ok',e1,_,_,_,kc1⟩:=hkid 1 (by simp);injection e1 with e1;injection e1 with e1 e2;subst e1 e2;have HU0:=H_ hstk.1;have HU1:=H_ hstk.2.1
 have HW0:Q_ (∀ (w':World),Below w w w'->Calls prog 133 #[u0] w' λe w2=>e=.returned (.string ⟨(ς x 1).toArray⟩)/\Below w' w' w2):=
  H_ λw' hb=>ihx lo u0 w' (zc6 HU0.o hb) hokx (by omega) (hM.below hb)
 have HW1:Q_ (∀ (w':World) (lo' hi':Nat) (v:Value),Below w w w'->SlI lo' hi' w' v [20]->Calls prog 177 #[u1,v] w' λe w2=>e=.returned (.string ⟨(zat y [20]).toArray⟩)/\Below w' w' w2):=
  H_ λw' lo' hi' v hb hr=>zjs y ihy lo lo' hi' u1 v [20] w' (zc6 HU1.o hb) hoky (by omega) (hM.below hb) hr (by simp)
 have hgs:∀ w',Below w w w'->w'.cell? (p_ b 0)=some (.int .i64 20)/\w'.cell? (p_ b 1)=some (.slice (some ⟨gk,ok,none⟩) 2 cap)/\w'.cell? (p_ gk ok)=some u0/\w'.cell? (p_ gk (ok+1))=some u1:=λw' hb=>
  ⟨(hblk.below hb hblk.lt).cell 0,(hblk.below hb hblk.lt).cell 1,(hb.cell (p:=p_ gk ok) hgk).trans kc0,(hb.cell (p:=p_ gk (ok+1)) hgk).trans kc1⟩
 obtain⟨c0,c1,kc0',kc1'⟩:=hgs w (B_ _ _);have HGS:=H_ hgs;have q1:zae 20=false:=by decide
 have hbD:Below w w w.drew:=n_ (B_ _ _);have hbA:Below w w ((w.alloc (.cells #[(20:Int)] 3)).drew):=n_ (ε _ _);have hzA:((w.alloc (.cells #[(20:Int)] 3)).drew).heap.size=w.heap.size+1:=κ _ _;have hrA:SlI w (w+1) ((w.alloc (.cells #[(20:Int)] 3)).drew) (.slice (some ⟨w,0,none⟩) 1 1) [20]:=zce (π 1 3 w (ints [20]) 1 (by omega) rfl);have hSA:=hgs _ hbA;have hSD:=hgs w.drew hbD;clear hp hM hstk hkid hblk hgs
 go_enter func133,ntmps133
 go_wp2_with fail
 refine(zbt _ w).mono ?_;rintro e w1 ⟨rfl,rfl⟩;rw[q1];go_upto_region 6 with fail
 first
 | (go_region_held_law (λw'=>w'.cell? (p_ b 0)=some (.int .i64 20)/\w'.cell? (p_ b 1)=some (.slice (some ⟨gk,ok,none⟩) 2 cap)/\w'.cell? (p_ gk ok)=some u0/\w'.cell? (p_ gk (ok+1))=some u1) (first | with_reducible assumption | go_keep) (first
  | ((have g_:=HR2);go_at_call 177;(with_reducible show Calls _ _ _ w2 _);refine(HW1.o w2 _ _ _ H2.o HR2.o).mono ?_;rintro e3 w3 ⟨rfl,h_⟩;(have h3:Below w w w3:=H2.o.trans (h_.mono H2.o.size));(have hS3:=HGS.o w3 h3);(have H3:=H_ h3);clear h_ h3 g_)
  | ((have g_:=H2);go_at_call 177;(with_reducible show Calls _ _ _ (w2.alloc (.cells #[(20:Int)] 3)) _);refine(HW1.o (w2.alloc (.cells #[(20:Int)] 3)) _ _ _ (H2.o.alloc H2.o.size (.cells #[(20:Int)] 3)) (zce (π 1 3 w2 (ints [20]) 1 (by omega) rfl))).mono ?_;rintro e3 w3 ⟨rfl,h_⟩;(have h3:Below w w w3:=(H2.o.alloc H2.o.size (.cells #[(20:Int)] 3)).trans (h_.mono (H2.o.alloc H2.o.size (.cells #[(20:Int)] 3)).size));(have hS3:=HGS.o w3 h3);(have H3:=H_ h3);clear h_ h3 g_)
  | (go_at_call 133;(with_reducible show Calls _ _ _ w.drew _);refine(HW0.o w.drew hbD).mono ?_;rintro e2 w2 ⟨rfl,h_⟩;(have h2:Below w w w2:=hbD.trans (h_.mono hbD.size));(have hS2:=HGS.o w2 h2);(have hSN2:=HGS.o (w2.alloc (.cells #[(20:Int)] 3)) (h2.alloc h2.size (.cells #[(20:Int)] 3)));(have H2:=H_ h2);clear h_ h2)
  | (go_at_call 133;(with_reducible show Calls _ _ _ ((w.alloc (.cells #[(20:Int)] 3)).drew) _);refine(HW0.o ((w.alloc (.cells #[(20:Int)] 3)).drew) hbA).mono ?_;rintro e2 w2 ⟨rfl,h_⟩;(have h2:Below w w w2:=hbA.trans (h_.mono hbA.size));(have hS2:=HGS.o w2 h2);(have hSN2:=HGS.o (w2.alloc (.cells #[(20:Int)] 3)) (h2.alloc h2.size (.cells #[(20:Int)] 3)));(have H2:=H_ h2);(have HR2:=H_ (hrA.below h_ (by show w.heap.size+1<=_;rw[hzA];exact le_ _)));clear h_ h2)))
 | fail
 all_goals (
  go_wp2;go_ret;exact⟨by rw[HT.o,<-zbn,<-zbn];rfl,H3.o⟩)
theorem zwq:∀ t:KT,TxC t:=by
 intro t
 induction t with
 | leaf n=>exact zv4 n
 | star x ih=>exact zsc x ih
 | bin p x y ihx ihy=>
  cases p
  ·exact zw0 x y ihx ihy
  ·exact zz8 x y ihx ihy
end
theorem zli(v:Value)(es:List Int)(w:World)(hx:RdI w v es)(hm:es.length<=1048576)(hM:zc4 w):
  Calls prog 87 #[v] w λe w'=>e=.returned (.string ⟨(zbr es).toArray⟩)/\Below w w w':=by
 cases hk:μ es with
 | true=>
  obtain⟨t,h1,h2,ht,h4⟩:=zez hk;subst h2;rw[zp1 h1 h4];have hl:t.post.length<=40:=by rw[zar];exact h4
  obtain⟨a,cap,rfl,_,_⟩:=τ hx;have HX:=H_ hx;have HM:=H_ hM;have HT:=H_ ht;have HK:=H_ hk;clear hx hM ht hk
  go_enter func87,ntmps87
  go_wp2_with fail
  refine(zdd _ _ _ t.post _ HX.o (by omega)).mono ?_;rintro e w1 ⟨rfl,rfl⟩;rw[HK.o];go_wp2_with fail
  refine(zk6 _ t.post t _ HX.o (by omega) HT.o).mono ?_;rintro e w2 ⟨p,rfl,hb,hp⟩;have HB:=H_ hb;have HP:=H_ hp;have HM2:=H_ (HM.o.below hb);clear hb hp;go_wp2_with fail
  refine(zwq t _ _ _ HP.o h1 h4 HM2.o).mono ?_;rintro e w3 ⟨rfl,hb⟩;have HB3:=HB.ts hb;clear hb;go_wp2;go_ret;exact⟨rfl,HB3.o⟩
 | false=>
  have HT:=H_ (show zbr es=[] by rw[zbr,hk];rfl);obtain⟨a,cap,rfl,_,_⟩:=τ hx;have HX:=H_ hx;clear hx
  go_enter func87,ntmps87
  go_wp2_with fail
  refine(zdd _ _ _ es _ HX.o (by omega)).mono ?_;rintro e w1 ⟨rfl,rfl⟩;rw[hk];go_wp2;go_ret;exact⟨by rw[HT.o];rfl,B_ _ _⟩
def zdq{α:Type}(p:α->Bool)(xs:List α):Int:=match xs.findIdx? p with | some i=>(i:Nat) | none=>-1
theorem zp9 {α:Type}(p:α->Bool)(xs:List α)(j:Nat)(h:j<xs.length)(hp:p xs[j]=true)(hn:∀ n,n<j->∀ h:n<xs.length,p xs[n]=false):zdq p xs=(j:Nat):=by
 have:xs.findIdx? p=some j:=by
  rw[cs_];exact⟨h,hp,λn hn'=>by have:=hn n hn' (by omega);simp[this]⟩
 rw[zdq,this]
theorem zse {α:Type}(p:α->Bool)(xs:List α)(hn:∀ n (h:n<xs.length),p xs[n]=false):zdq p xs=-1:=by
 have:xs.findIdx? p=none:=by
  rw[dh_];intro x hx;obtain⟨n,h,rfl⟩:=ae_ hx;exact hn n h
 rw[zdq,this]
theorem zsy {α:Type}(p:α->Bool)(xs:List α):decide (zdq p xs≥0)=xs.any p:=by
 unfold zdq;cases h:xs.findIdx? p with
 | none=>
  rw[dh_]at h;simp only[ge_iff_le];rw[eq_comm]
  simpa using h
 | some i=>
  rw[cs_]at h;obtain⟨h1,h2,_⟩:=h;simp only[ge_iff_le];rw[eq_comm];simp;exact⟨xs[i],k_ h1,h2⟩
def zaz(lo hi:Nat)(w:World)(v:Value)(xss:List (List Int)):Prop:=
 ∃ a cap,v=.slice a xss cap/\xss.length<=cap/\cap<=maxLen/\∀ i (h:i<xss.length),∃ b off u,a=some ⟨b,off,none⟩/\lo<=b/\b<hi/\b<w.heap.size/\w.cell? (p_ b (off+i))=some u/\SlI lo hi w u xss[i]
theorem zaz.below(h:zaz lo hi w v xss)(hb:Below B w w')(hB:hi<=B):zaz lo hi w' v xss:=by
 obtain⟨a,cap,e,h1,h2,h3⟩:=h;refine⟨a,cap,e,h1,h2,λi hi'=>?_⟩;obtain⟨b,off,u,e1,e2,e3,e4,e5,e6⟩:=h3 i hi';exact⟨b,off,u,e1,e2,e3,C_ e4 hb.size,(hb.cell (p:=p_ b (off+i)) (C_ e3 hB)).trans e5,e6.below hb hB⟩
theorem zaz.outside(h:zaz lo hi w v xss)(hb:β lo' hi' w w')(hd:hi<=lo'\/hi'<=lo):zaz lo hi w' v xss:=by
 obtain⟨a,cap,e,h1,h2,h3⟩:=h;refine⟨a,cap,e,h1,h2,λi hi'=>?_⟩;obtain⟨b,off,u,e1,e2,e3,e4,e5,e6⟩:=h3 i hi';exact⟨b,off,u,e1,e2,e3,C_ e4 hb.size,by rw[X_ (w:=w) (a:=p_ b (off+i)) (hb.block b e4 (by omega))];exact e5,e6.outside hb hd⟩
theorem zaz.wide(h:zaz lo hi w v xss)(h1:lo'<=lo)(h2:hi<=hi'):zaz lo' hi' w v xss:=by
 obtain⟨a,cap,e,k1,k2,h3⟩:=h;refine⟨a,cap,e,k1,k2,λi hi'=>?_⟩;obtain⟨b,off,u,e1,e2,e3,e4,e5,e6⟩:=h3 i hi';exact⟨b,off,u,e1,by omega,by omega,e4,e5,e6.wide h1 h2⟩
theorem zaz.get {a:Option Addr}(h:zaz lo hi w (.slice a n cap) xss)(i:Nat)(hi':i<xss.length):
  ∃ b off u,a=some ⟨b,off,none⟩/\lo<=b/\b<hi/\b<w.heap.size/\w.cell? (p_ b (off+i))=some u/\SlI lo hi w u xss[i]:=by
 obtain⟨a',cap',e,_,_,h3⟩:=h;injection e with e1 _ _;subst e1;exact h3 i hi'
theorem zaz.shape(h:zaz lo hi w v xss):∃ a cap,v=.slice a xss cap/\xss.length<=cap/\cap<=maxLen:=by
 obtain⟨a,cap,e,h1,h2,_⟩:=h;exact⟨a,cap,e,h1,h2⟩
theorem zjj {set k:Nat}(hs:set<4611686018427387904):(bits .and .i64 ((set:Int)/2 ^ k) 1==1)=set.testBit k:=by
 have h1:((set:Int)/2 ^ k)=((set/2 ^ k:Nat):Int):=by push_cast;rfl
 have h2:set/2 ^ k<4611686018427387904:=ci_ (Nat.div_le_self _ _) hs;rw[h1,show (1:Int)=((1:Nat):Int) from rfl,zq3 _ _ h2 (by omega),a9_,Nat.and_one_is_mod];rw[bz_];simp;omega
def zcf(lo hi:Nat)(w:World)(v:Value)(n:Nat)(ss:List Value):Prop:=
 Own 1 lo hi 22 w v ss.length ss/\∀ s∈ss,∃ xs:List Int,xs.length=n/\γ lo hi 3 w s xs
theorem zcf.below(h:zcf lo hi w v n ss)(hb:Below B w w')(hB:hi<=B):zcf lo hi w' v n ss:=
 ⟨h.1.below hb hB,λs hs=>by obtain⟨xs,h1,h2⟩:=h.2 s hs;exact⟨xs,h1,h2.below hb hB⟩⟩
theorem zcf.outside(h:zcf lo hi w v n ss)(hb:β lo' hi' w w')(hd:hi<=lo'\/hi'<=lo):zcf lo hi w' v n ss:=
 ⟨h.1.outside hb hd,λs hs=>by obtain⟨xs,h1,h2⟩:=h.2 s hs;exact⟨xs,h1,h2.outside hb hd⟩⟩
theorem zcf.lower(h:zcf lo hi w v n ss)(hl:lo'<=lo)(hh:hi<=hi'):zcf lo' hi' w v n ss:=
 ⟨h.1.wide2 hl hh,λs hs=>by obtain⟨xs,h1,h2⟩:=h.2 s hs;exact⟨xs,h1,h2.lower hl hh⟩⟩
theorem zcf.nil(lo hi n:Nat)(w:World):zcf lo hi w () n []:=⟨Ξ _ _ _ _ _,λs hs=>by cases hs⟩
theorem zcf.shape(h:zcf lo hi w v n ss):∃ a cap,v=.slice a ss cap:=by
 obtain⟨a,cap,e,_⟩:=h.1.open;exact⟨a,cap,e⟩
theorem Own.block {sz e:Nat} {a:Addr} {xs:List Value}(h:Own sz lo hi e w (.slice (some a) n cap) n xs):a=p_ a.block 0/\lo<=a.block/\a.block<hi/\∃ cur,w.heap[a.block]?=some (.cells cur e (0,0)):=by
 obtain⟨⟨_,h1⟩,h2⟩:=h;rcases h1 with⟨h1,_⟩|⟨g',cap',cur,e1,hb,hg,_⟩
 ·cases h1
 ·simp only[Value.slice.injEq,Z_,true_and]at e1
  obtain⟨rfl,_⟩:=e1;exact⟨rfl,hb,h2 _ rfl,cur,hg⟩
theorem zcf.sl(h:zcf lo hi w v n ss):∃ xss,zaz lo hi w v xss/\xss.length=ss.length/\∀ x∈xss,x.length=n:=by
 have key:∀ ss:List Value,(∀ s∈ss,∃ xs:List Int,xs.length=n/\γ lo hi 3 w s xs)->∃ xss:List (List Int),xss.length=ss.length/\(∀ x∈xss,x.length=n)/\∀ i (h1:i<ss.length) (h2:i<xss.length),SlI lo hi w ss[i] xss[i]:=by
  intro ss
  induction ss with
  | nil=>intro _;exact⟨[],rfl,(λx hx=>by cases hx),λi h1=>by simp at h1⟩
  | cons s r ih=>
   intro hs;obtain⟨xss,h1,h2,h3⟩:=ih λx hx=>hs x (by simp[hx])
   obtain⟨xs,h4,h5⟩:=hs s (by simp);refine⟨xs :: xss,by simp[h1],λx hx=>?_,λi hi1 hi2=>?_⟩
   ·rcases z_.1 hx with rfl|hx
    ·exact h4
    ·exact h2 x hx
   ·cases i with
    | zero=>exact h5.sl
    | succ i=>exact h3 i (by simpa using hi1) (by simpa using hi2)
 obtain⟨xss,h1,h2,h3⟩:=key ss h.2;refine⟨xss,?_,h1,h2⟩;obtain⟨a,cap,e,e1,e2,_,_,hc⟩:=h.1.sl;refine⟨a,cap,by rw[h1];exact e,by rw[h1];exact e1,e2,λi hi=>?_⟩;obtain⟨b,off,f1,f2,f3,f4,f5⟩:=hc i (by omega);exact⟨b,off,ss[i],f1,f2,f3,f4,by rw[f5,c_],h3 i (by omega) hi⟩
theorem zcf.row(h:zcf lo hi w v n ss){k:Nat}(hk:k<ss.length)(hn:0<n):
  ∃ gO cap gi ci,v=.slice (some ⟨gO,0,none⟩) ss cap/\ss.length<=cap/\cap<=maxLen/\ss[k]=.slice (some ⟨gi,0,none⟩) n ci/\n<=ci/\ci<=maxLen/\lo<=gO/\lo<=gi/\gi≠gO/\gO<w.heap.size/\gi<w.heap.size /\
   w.cell? (p_ gO k)=some ss[k]/\∀ j,j<n->w.frozen? (p_ gi j)=false/\∃ z:Int,w.cell? (p_ gi j)=some (.int .i64 z):=by
 rcases h.1.1.2 with⟨_,h0⟩|⟨gO,cap,cur,rfl,hb,hgO,hc1,hc2,hc3,htk⟩
 ·omega
 ·obtain⟨xs,hxn,ho⟩:=h.2 _ (k_ hk)
  rcases ho.1.2 with⟨_,h0⟩|⟨gi,ci,cur',hv,hbi,hgi,hi1,hi2,hi3,htki⟩
  ·omega
  ·refine⟨gO,cap,gi,ci,rfl,hc1,hc2,by rw[hv,hxn],by omega,hi2,hb,hbi,λe=>?_,(v_.1 hgO).1,(v_.1 hgi).1,?_,λj hj=>⟨by simp[World.frozen?,hgi],xs[j],?_⟩⟩
   ·rw[e,hgO]at hgi
    injection hgi with hgi;injection hgi with _ h2 _;exact absurd h2 (by decide)
   ·(have:=h.1.1.cells (g:=gO) rfl k ss[k] (c_ hk))
    rwa [aj_,G_]at this
   ·(have:=ho.1.cells (g:=gi) (by rw[hv];rfl) j (.int .i64 xs[j]) (zfd xs j (by omega)))
    rwa [aj_,G_]at this
def zc3(lo hi:Nat)(w:World)(v:Value)(ss:List Value):Prop:=
 Own 1 lo hi 22 w v ss.length ss/\∀ s∈ss,∃ xs:List Int,xs.length<=6/\γ lo hi 3 w s xs
theorem zc3.below(h:zc3 lo hi w v ss)(hb:Below B w w')(hB:hi<=B):zc3 lo hi w' v ss:=
 ⟨h.1.below hb hB,λs hs=>by obtain⟨xs,h1,h2⟩:=h.2 s hs;exact⟨xs,h1,h2.below hb hB⟩⟩
theorem zc3.outside(h:zc3 lo hi w v ss)(hb:β lo' hi' w w')(hd:hi<=lo'\/hi'<=lo):zc3 lo hi w' v ss:=
 ⟨h.1.outside hb hd,λs hs=>by obtain⟨xs,h1,h2⟩:=h.2 s hs;exact⟨xs,h1,h2.outside hb hd⟩⟩
theorem zc3.lower(h:zc3 lo hi w v ss)(hl:lo'<=lo)(hh:hi<=hi'):zc3 lo' hi' w v ss:=
 ⟨h.1.wide2 hl hh,λs hs=>by obtain⟨xs,h1,h2⟩:=h.2 s hs;exact⟨xs,h1,h2.lower hl hh⟩⟩
theorem zc3.put {s:Value} {xs:List Int}(h:zc3 lo hi w (.slice (some ⟨g,0,none⟩) n cap) ss)(hn:n=ss.length)(hs:γ lo hi 3 w s xs)(hx:xs.length<=6)(j:Nat):
  zc3 lo hi (w.setCell (p_ g j) s) (.slice (some ⟨g,0,none⟩) n cap) (ss.set j s)/\β lo hi w (w.setCell (p_ g j) s):=by
 subst hn;obtain⟨_,hg1,hg2,cur,hcur⟩:=Own.block h.1;simp only at hg1 hg2 hcur;have hO:β lo hi w (w.setCell (p_ g j) s):=(β.refl _ _ _).setCell (p:=p_ g j) hg1 hg2 _
 have kept:∀ {u:Value} {ys:List Int},γ lo hi 3 w u ys->γ lo hi 3 (w.setCell (p_ g j) s) u ys:=by
  intro u ys hu;rcases hu.1.2 with⟨h1,h0⟩|⟨g',cap',cur',e1,hb,hg',hrest⟩
  ·exact⟨⟨hu.1.1,.inl ⟨h1,h0⟩⟩,hu.2⟩
  ·refine⟨⟨hu.1.1,.inr ⟨g',cap',cur',e1,hb,?_,hrest⟩⟩,hu.2⟩
   rw[heap_setCell_other w (p_ g j) g' _ (λe=>by
    (have e:g'=g:=by simpa using e);subst e;rw[hcur]at hg';injection hg' with hg';injection hg' with _ h2 _;exact absurd h2 (by decide))]
   exact hg'
 refine⟨⟨?_,λu hu=>?_⟩,hO⟩
 ·rw[be_]
  exact⟨(c4_ h.1.1 j s).1,h.1.2⟩
 ·rcases List.mem_or_eq_of_mem_set hu with hu|rfl
  ·obtain⟨ys,h1,h2⟩:=h.2 u hu
   exact⟨ys,h1,kept h2⟩
  ·exact⟨xs,hx,kept hs⟩
theorem zc3.sl(h:zc3 lo hi w v ss):∃ xss,zaz lo hi w v xss/\xss.length=ss.length/\∀ x∈xss,x.length<=6:=by
 have key:∀ ss:List Value,(∀ s∈ss,∃ xs:List Int,xs.length<=6/\γ lo hi 3 w s xs)->∃ xss:List (List Int),xss.length=ss.length/\(∀ x∈xss,x.length<=6)/\∀ i (h1:i<ss.length) (h2:i<xss.length),SlI lo hi w ss[i] xss[i]:=by
  intro ss
  induction ss with
  | nil=>intro _;exact⟨[],rfl,(λx hx=>by cases hx),λi h1=>by simp at h1⟩
  | cons s r ih=>
   intro hs;obtain⟨xss,h1,h2,h3⟩:=ih λx hx=>hs x (by simp[hx])
   obtain⟨xs,h4,h5⟩:=hs s (by simp);refine⟨xs :: xss,by simp[h1],λx hx=>?_,λi hi1 hi2=>?_⟩
   ·rcases z_.1 hx with rfl|hx
    ·exact h4
    ·exact h2 x hx
   ·cases i with
    | zero=>exact h5.sl
    | succ i=>exact h3 i (by simpa using hi1) (by simpa using hi2)
 obtain⟨xss,h1,h2,h3⟩:=key ss h.2;refine⟨xss,?_,h1,h2⟩;obtain⟨a,cap,e,e1,e2,_,_,hc⟩:=h.1.sl;refine⟨a,cap,by rw[h1];exact e,by rw[h1];exact e1,e2,λi hi=>?_⟩;obtain⟨b,off,f1,f2,f3,f4,f5⟩:=hc i (by omega);exact⟨b,off,ss[i],f1,f2,f3,f4,by rw[f5,c_],h3 i (by omega) hi⟩
theorem zaz.nil(lo hi:Nat)(w:World):zaz lo hi w () []:=⟨none,0,rfl,le_ _,by decide,λi h=>by simp at h⟩
end Go.Proofs.YtfnnhimopokpnaaGreatDoor
