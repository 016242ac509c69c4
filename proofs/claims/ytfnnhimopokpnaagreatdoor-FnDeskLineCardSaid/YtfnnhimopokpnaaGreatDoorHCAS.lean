/- Lemmas for this seat; no condition. -/
import Derived.Test.YtfnnhimopokpnaaGreatDoorHCAQ
import Derived.Test.YtfnnhimopokpnaaGreatDoorHCAR
namespace Go.Proofs.YtfnnhimopokpnaaGreatDoor
open Go.RowKit Proofs.Tryz
set_option maxRecDepth 100000
set_option maxHeartbeats 0
set_option linter.all false
variable {N st d s k:Nat} {w:World} {xs ys:List Int}
def zfl(M:Mach)(c:List In3)(N st:Nat)(d a s:Nat):Prop:=1<=d/\d<=N+1/\runS (stepC M c) N (0,st)=(runS (stepC M c) (N+1-d) (a,s)).map λr=>(r.1,r.2+(d-1))
theorem zfl.start(M:Mach)(c:List In3)(N st:Nat):zfl M c N st 1 0 st:=by
 refine⟨le_ _,by omega,?_⟩;rw[show N+1-1=N by omega];cases runS (stepC M c) N (0,st)<;>rfl
theorem zfl.next {M:Mach} {c:List In3} {a:Nat}(h:zfl M c N st d a s)(hd:d<=N){p:Nat × Nat}(hp:stepC M c (a,s)=some p):zfl M c N st (d+1) p.1 p.2:=by
 obtain⟨h1,h2,h3⟩:=h;refine⟨by omega,by omega,?_⟩;rw[h3,show N+1-d=(N+1-(d+1))+1 by omega,runS_step hp,dq_]
 congr 1
 funext r
 simp only[Function.comp];rw[show d+1-1=d-1+1 by omega];simp only[bf_,true_and];omega
theorem zfl.done {M:Mach} {c:List In3} {a:Nat}(h:zfl M c N st d a s)(hd:d<=N)(hp:stepC M c (a,s)=none):runS (stepC M c) N (0,st)=some ((a,s),d):=by
 obtain⟨h1,h2,h3⟩:=h;rw[h3,show N+1-d=(N-d)+1 by omega,runS_end hp];simp only[cn_,ar_,bf_,true_and];omega
theorem zfl.over {M:Mach} {c:List In3} {a:Nat}(h:zfl M c N st d a s)(hd:N<d):runS (stepC M c) N (0,st)=none:=by
 obtain⟨h1,h2,h3⟩:=h;rw[h3,show N+1-d=0 by omega];rfl
theorem z29(a b:Nat)(ha:a<1048576)(hb:b<1048576):((a:Int)+b-((a &&& b:Nat):Int))=((a ||| b:Nat):Int):=by
 have:=or_add_and 20 a b (by omega);omega
theorem zlh(a b:Nat)(ha:a<1048576)(hb:b<1048576)(w:World):Calls prog 157 #[.int .i64 a,.int .i64 b] w λe w'=>e=.returned ((a ||| b:Nat):Int)/\w=w':=by
 have HO:=H_ (z29 a b ha hb);have HB:=H_ (zp3 a b ha hb w);have hle:a &&& b<=a:=do_;have⟨c,hc⟩:=ex_ (a &&& b);rw[<-hc]at HB HO hle;clear hc
 go_enter func157,ntmps157
 go_wp2_with fail
 refine HB.o.mono ?_;rintro e _ ⟨rfl,rfl⟩;go_wp2;go_ret;exact⟨zdk HO.o,rfl⟩
def EndC(t:KT):Prop:=∀ (lo hi:Nat) (v:Value) (w:World),SlI lo hi w v t.post->t.ok 0=true->t.size<=2000->hi<=w ->
 c_ 110 #[v] w ((endsK t:Nat):Int)
theorem zl7:∀ t:KT,EndC t:=by
 intro t
 induction t with
 | leaf n=>
  intro lo hi v w hx hok hs hh;simp only[KT.ok,j_,t_]at hok;obtain⟨hn0,hn18⟩:=hok;obtain⟨a,cap,rfl,_,_⟩:=ο hx;obtain⟨b,off,rfl,hb1,hb2,hb3,hcell⟩:=hx.get 0 (by simp[KT.post]);have hc1:w.cell? (p_ b off)=some (.int .i64 n):=hcell;have hlen:(KT.leaf n).post.length=1:=rfl;rw[hlen];clear hx hlen hcell;by_cases h15:n<=15
  ·have HE:=H_ (show n=((endsK (.leaf n):Nat):Int) by unfold endsK;rw[m_ (by omega)];omega)
   go_enter func110,ntmps110
   go_wp2;go_ret;exact⟨zdk HE.o,B_ _ _⟩
  ·have HE:=H_ (show (0:Int)=((endsK (.leaf n):Nat):Int) by unfold endsK;rw[x_ (by omega)];rfl)
   go_enter func110,ntmps110
   go_wp2;go_ret;exact⟨zdk HE.o,B_ _ _⟩
 | star x ih=>
  intro lo hi v w hx hok hs hh;simp only[KT.size]at hs;have hlen:(KT.star x).post.length=x.size+1:=by rw[za2];rfl
  obtain⟨a,cap,rfl,_,hcm⟩:=ο hx;obtain⟨b,off,rfl⟩:=hx.notNil (by omega)
  have hc1:w.cell? (p_ b (off+x.size))=some (.int .i64 21):=by
   obtain⟨b',off',e,_,_,_,hc⟩:=hx.get x.size (by omega);injection e with e;injection e with e1 e2;subst e1 e2;rw[hc];simp[KT.post,<-za2]
  rw[hlen];clear ih hok hx hcm
  go_enter func110,ntmps110
  go_wp2;go_ret;exact⟨rfl,B_ _ _⟩
 | bin p x y ihx ihy=>
  intro lo hi v w hx hok hs hh;simp only[KT.ok,j_]at hok;obtain⟨hokx,hoky⟩:=hok;simp only[KT.size]at hs;have hlen:(KT.bin p x y).post.length=x.size+y.size+1:=by rw[za2];rfl
  have HALF:=H_ (show Calls prog 156 #[v] w (zij λa b w2=>Below w w w2/\SlI lo hi w2 a x.post/\SlI lo hi w2 b y.post) from
   (zhi lo hi v 0 p x y w hx (by omega) hoky).mono (by rintro e w2 ⟨va,vb,rfl,⟨m,rfl⟩,ha,hb⟩;exact⟨va,vb,rfl,ai_ (B_ _ _) m,ha,hb⟩))
  obtain⟨a,cap,rfl,_,hcm⟩:=ο hx;obtain⟨b,off,rfl⟩:=hx.notNil (by omega)
  have hc1:w.cell? (p_ b (off+(x.size+y.size)))=some (.int .i64 (KT.op p)):=by
   obtain⟨b',off',e,_,_,_,hc⟩:=hx.get (x.size+y.size) (by omega);injection e with e;injection e with e1 e2;subst e1 e2;rw[hc];simp[KT.post,<-za2]
  rw[hlen]at HALF ⊢;have IHX:=H_ ihx;have IHY:=H_ ihy;have hex:=zeh hokx;have hey:=zeh hoky;have HOR:=H_ (zlh (endsK x) (endsK y) (by omega) (by omega));have HAN:=H_ (zp3 (endsK x) (endsK y) (by omega) (by omega));have HEK:=H_ (show endsK (.bin p x y)=if p then endsK x ||| endsK y else endsK x &&& endsK y from rfl);clear ihx ihy hx hex hey hcm;cases p
  ·have hop:KT.op false=19:=rfl
   rw[hop]at hc1
   go_enter func110,ntmps110
   go_wp2_with fail
   refine HALF.o.mono ?_;rintro e w2 ⟨va,vb,rfl,h_,ha,hb⟩;have hs2:=h_.size;have HB:=H_ h_;have HA:=H_ ha;have HY:=H_ hb;obtain⟨aa,ac,rfl,_,_⟩:=ο ha;obtain⟨ba,bc,rfl,_,_⟩:=ο hb;clear h_ ha hb HALF;go_wp2_with fail
   refine(IHX.o lo hi _ w2 HA.o hokx (by omega) (by omega)).mono ?_;rintro e w3 ⟨rfl,hb⟩;have hs3:=hb.size;replace HB:=HB.ts hb;replace HY:=H_ (HY.o.below hb (by omega));clear hb HA;go_wp2_with fail
   refine(IHY.o lo hi _ w3 HY.o hoky (by omega) (by omega)).mono ?_;rintro e w4 ⟨rfl,hb⟩;replace HB:=HB.ts hb;clear hb HY;go_wp2_with fail
   refine(HAN.o w4).mono ?_;rintro e _ ⟨rfl,rfl⟩;go_wp2;go_ret;exact⟨by rw[HEK.o];rfl,HB.o⟩
  ·have hop:KT.op true=20:=rfl
   rw[hop]at hc1
   go_enter func110,ntmps110
   go_wp2_with fail
   refine HALF.o.mono ?_;rintro e w2 ⟨va,vb,rfl,h_,ha,hb⟩;have hs2:=h_.size;have HB:=H_ h_;have HA:=H_ ha;have HY:=H_ hb;obtain⟨aa,ac,rfl,_,_⟩:=ο ha;obtain⟨ba,bc,rfl,_,_⟩:=ο hb;clear h_ ha hb HALF;go_wp2_with fail
   refine(IHX.o lo hi _ w2 HA.o hokx (by omega) (by omega)).mono ?_;rintro e w3 ⟨rfl,hb⟩;have hs3:=hb.size;replace HB:=HB.ts hb;replace HY:=H_ (HY.o.below hb (by omega));clear hb HA;go_wp2_with fail
   refine(IHY.o lo hi _ w3 HY.o hoky (by omega) (by omega)).mono ?_;rintro e w4 ⟨rfl,hb⟩;replace HB:=HB.ts hb;clear hb HY;go_wp2_with fail
   refine(HOR.o w4).mono ?_;rintro e _ ⟨rfl,rfl⟩;go_wp2;go_ret;exact⟨by rw[HEK.o];rfl,HB.o⟩
noncomputable def zd5(e:List Int):Int:=if μ e then ((endsK (Ο e):Nat):Int) else -1
theorem z0h(lo hi:Nat)(v:Value)(es:List Int)(w:World)(hx:SlI lo hi w v es)(hm:es.length<=1048576)(hh:hi<=w):
  c_ 58 #[v] w (.int .i64 (zd5 es)):=by
 obtain⟨a,cap,rfl,_,_⟩:=ο hx;have HX:=H_ hx;clear hx;cases hk:μ es with
 | true=>
  obtain⟨t,h1,h2,_,h4⟩:=zd6 hk;have HE:=H_ (show zd5 es=((endsK t:Nat):Int) by rw[zd5,hk,x_ rfl,<-h2,zcy h1]);have HC:=H_ (zl7 t lo hi (.slice a es cap) w (by rw[h2];exact HX.o) h1 (by omega) hh);clear h1 h2 h4
  go_enter func58,ntmps58
  go_wp2_with fail
  refine(zai _ _ _ es _ HX.o (by omega)).mono ?_;rintro e w1 ⟨rfl,rfl⟩;rw[hk];clear hk;go_wp2_with fail
  refine HC.o.mono ?_;rintro e w2 ⟨rfl,hb⟩;have HB:=H_ hb;clear hb;go_wp2;go_ret;exact⟨zdk HE.o.symm,HB.o⟩
 | false=>
  have HE:=H_ (show zd5 es=-1 by rw[zd5,hk];rfl)
  go_enter func58,ntmps58
  go_wp2_with fail
  refine(zai _ _ _ es _ HX.o (by omega)).mono ?_;rintro e w1 ⟨rfl,rfl⟩;rw[hk];clear hk;go_wp2;go_ret;exact⟨zdk HE.o.symm,B_ _ _⟩
theorem zsp {e:List Int}(h:μ e=true):zd5 e=((endsK (Ο e):Nat):Int)/\endsK (Ο e)<16:=by
 refine⟨by rw[zd5,h,x_ rfl],?_⟩;obtain⟨t,h1,h2,_,_⟩:=zd6 h;rw[<-h2,zcy h1];exact zeh h1
theorem zu3(lo hi:Nat)(v:Value)(es:List Int)(w:World)(hx:SlI lo hi w v es)(hm:es.length<=1048576)(hh:hi<=w):
  c_ 96 #[v] w (.int .i64 (zd5 es)):=by
 obtain⟨a,cap,rfl,_,_⟩:=ο hx;have HX:=H_ hx;clear hx;cases hk:μ es with
 | true=>
  obtain⟨t,h1,h2,_,h4⟩:=zd6 hk;have HE:=H_ (show zd5 es=((endsK t:Nat):Int) by rw[zd5,hk,x_ rfl,<-h2,zcy h1]);have HC:=H_ (zlw lo hi (.slice a es cap) t w (by rw[h2];exact HX.o) hh (by omega) h1);clear h1 h2 h4
  go_enter func96,ntmps96
  go_wp2_with fail
  refine(zc5 _ _ _ es _ HX.o (by omega)).mono ?_;rintro e w1 ⟨rfl,rfl⟩;rw[hk];clear hk;go_wp2_with fail
  refine HC.o.mono ?_;rintro e w2 ⟨rfl,hb⟩;have HB:=H_ hb;clear hb;go_wp2;go_ret;exact⟨zdk HE.o.symm,HB.o⟩
 | false=>
  have HE:=H_ (show zd5 es=-1 by rw[zd5,hk];rfl)
  go_enter func96,ntmps96
  go_wp2_with fail
  refine(zc5 _ _ _ es _ HX.o (by omega)).mono ?_;rintro e w1 ⟨rfl,rfl⟩;rw[hk];clear hk;go_wp2;go_ret;exact⟨zdk HE.o.symm,B_ _ _⟩
theorem z05(B b:Nat)(bs:List Value)(c:Int)(w:World)(h:Lib.IsBuilderF 156 5 B b bs w)(hlen:bs.length+1<=1073741824)(hBw:B<=w.heap.size):
  Calls prog 143 #[.pointer (q_ b 0),.int .u8 c] w λe w'=>e=.returned .nilIface/\(Lib.BuilderAtF 156 5 B b (.pointer (q_ b 0)) (bs++[.int .u8 c]) w'/\Below B w w'):=by
 obtain⟨i0,hi,hz0,hz1,hz2⟩:=b8_ zwg
 go_enter func143,ntmps143
 go_wp2_with (go_at_call 185;refine(z11 B b bs _ h).mono ?_)
 rintro e w1 ⟨rfl,h1,hb1⟩;obtain⟨hB,v,hbk,hown,hne⟩:=h1;have c0:w1.cell? (p_ b 0)=some (.pointer (q_ b 0)):=by rw[al_ hbk];rfl
 have c1:w1.cell? (p_ b 1)=some v:=by rw[al_ hbk];rfl
 go_wp2_with (at_builtin;refine wpList_append_ownF _ rfl _ _ 40 rfl B 5 i0 (.int .u8 0) 1 1 underlying40 hi hz0 hz1 hz2 rfl (by decide) _ _ _ rfl (hown.alloc _) (p_ w1 0) 1 1 [.int .u8 c] rfl rfl ?c1 ?c2 ?c3 ?c4 ?c5 ?_)
 case c1=>
  intro j u hj
  match j,hj with
  | 0,hj=>simp at hj;subst hj;simp[Addr.add]
 case c2=>intro u hu;simp at hu;subst hu;rfl
 case c3=>unfold maxLen;omega
 case c4=>omega
 case c5=>have:=hb1.size;simp;omega
 intro v' w2 hown' hgrow _
 have hlt:b<w1:=by
  rcases bi_ b w1 with h'|h'
  ·exact h'
  ·simp[Array.getElem?_eq_none h']at hbk
 have hb2:w2.heap[b]?=some (.cells #[.pointer (q_ b 0),v] 156 (0,0)):=by
  rw[hgrow.block b (by simp;omega) (λe=>hne e.symm),Lib.alloc_old w1 _ b hlt];exact hbk
 have d0:w2.cell? (p_ b 0)=some (.pointer (q_ b 0)):=by rw[al_ hb2];rfl
 have d1:w2.cell? (p_ b 1)=some v:=by rw[al_ hb2];rfl
 have f1:w2.frozen? (p_ b 1)=false:=bs_ hb2 1
 obtain⟨g,cap,rfl⟩:∃ g cap,v'=.slice (some ⟨g,0,none⟩) (bs.length+1) cap:=by
  rcases hown'.2 with⟨_,h0⟩|⟨g,cap,cur,fz,hv,_⟩
  ·omega
  ·exact⟨g,cap,hv⟩
 go_wp2;go_ret;refine⟨rfl,?_,?_⟩
 ·exact Lib.BuilderAtF.put (T:=156) (e:=5) hB hb2 (bs':=bs++[.int .u8 c]) (by simpa using hown') (by decide)
 ·exact((hb1.alloc (by have:=hb1.size;omega) _).grown hgrow (by have:=hb1.size;simp;omega) (λk hk=>(hown.lt k hk).1)).setCell (p:=p_ b 1) hB _
theorem zog(B b:Nat)(bs:List UInt8)(c:Int)(w:World)(h:Bld B b bs w)(hlen:bs.length+1<=1073741824)(hBw:B<=w.heap.size)(c0:0<=c)(c1:c<=255):
  Calls prog 143 #[.pointer (q_ b 0),.int .u8 c] w λe w'=>e=.returned .nilIface/\Bld B b (bs++[UInt8.ofNat c.toNat]) w'/\Below B w w':=by
 refine(z05 B b _ c w h (by rw[Lib.byteCells_length];exact hlen) hBw).mono ?_;rintro e w' ⟨rfl,h1,h2⟩;refine⟨rfl,.inr ?_,h2⟩
 have:Lib.byteCells bs++[.int .u8 c]=Lib.byteCells (bs++[UInt8.ofNat c.toNat]):=by
  simp[Lib.byteCells];omega
 rw[<-this];exact h1
theorem z0s(lo hi:Nat)(v:Value)(xs:List Int)(w:World)(hx:SlI lo hi w v xs)(hm:xs.length<=1048576)(hhi:hi<=w):
  c_ 92 #[v] w (.string ⟨(zfh xs).toArray⟩):=by
 have hx0:=hx;obtain⟨a,cap,rfl,hcap,hcm,hc⟩:=hx.open;clear hx hcm hcap hc;cases hv:zb8 xs
 ·have HX:=H_ hx0
  clear hx0
  go_enter func92,ntmps92
  go_wp2_with (go_at_call 142;refine(zrr _ _ _ xs _ HX.o hm).mono ?_;rintro e w' ⟨rfl,rfl⟩)
  go_ret;exact⟨zbw (a:=[]) (by simp[zfh,hv]),B_ _ _⟩
 ·have HX:=H_ hx0
  clear hx0;have hlen:=(zud hv).2
  go_enter func92,ntmps92
  go_wp2_with (go_at_call 142;refine(zrr _ _ _ xs _ HX.o hm).mono ?_;rintro e w' ⟨rfl,rfl⟩)
  go_loopw [11] (λi wr=>∃ k:Nat,∃ l:List UInt8,k<=xs.length/\i=.int .i64 k/\l.length<=k/\Q_ (l=zes 0 (xs.take k))/\Bld w w l wr/\Below w w wr) (λi _=>xs.length-(intOf i).toNat)
  case atStart=>exact⟨0,[],by omega,rfl,le_ _,H_ rfl,zya w,(B_ _ _).alloc (le_ _) _⟩
  case round=>
   obtain⟨k,l,hk,rfl,hll,HL,HB,hb⟩:=hrel;have HB':=H_ HB;clear HB;have hx1:=HX.o.below hb hhi;by_cases hlt:k<xs.length
   ·(obtain⟨b,off,rfl,_,_,hbs,hcell⟩:=hx1.get k hlt);have hsz:=hb.size;have HBe:=H_ hb;clear hx1 hb;by_cases hp:k%2=0
    ·(have hp1:((k:Int)%2==0)=true:=by simp;omega);(obtain⟨hr1,hr2⟩:=zrq hv k hlt hp;have HT:=H_ (show zee k xs[k]=UInt8.ofNat (48+xs[k]).toNat by simp[zee,hp]);clear hp;go_wp2_with (go_at_call 143;refine(zog w w l _ _ HB'.o (by omega) hsz (by omega) (by omega)).mono ?_;rintro e w1 ⟨rfl,h1,h2⟩));go_roundw
     (case rel=>exact⟨k+1,l++[UInt8.ofNat (48+xs[k]).toNat],by omega,by go_num,by simp;omega,H_ (by rw[zkh xs k hlt,HL.o,HT.o]),h1,HBe.o.trans h2⟩);case measure=>simp[intOf];omega
    ·(have hp1:((k:Int)%2==0)=false:=by simp;omega);(obtain⟨hr1,hr2⟩:=zob hv k hlt hp;have HT:=H_ (show zee k xs[k]=UInt8.ofNat (97+xs[k]-16).toNat by simp[zee,hp];congr 2;omega);clear hp;go_wp2_with (go_at_call 143;refine(zog w w l _ _ HB'.o (by omega) hsz (by omega) (by omega)).mono ?_;rintro e w1 ⟨rfl,h1,h2⟩));go_roundw
     (case rel=>exact⟨k+1,l++[UInt8.ofNat (97+xs[k]-16).toNat],by omega,by go_num,by simp;omega,H_ (by rw[zkh xs k hlt,HL.o,HT.o]),h1,HBe.o.trans h2⟩);case measure=>simp[intOf];omega
   ·(obtain rfl:k=xs.length:=by omega);(have hsz:=hb.size;have HBe:=H_ hb;clear hx1 hb;go_wp2_with (go_at_call 144;refine(z1r w w l _ HB'.o hsz).mono ?_;rintro e w1 ⟨rfl,h1⟩));go_ret;exact⟨zbw (by rw[HL.o,Y_];simp[zfh,hv]),HBe.o.trans h1⟩
def zeo(l:List (List UInt8)):List Value:=l.map λx=>.string ⟨x.toArray⟩
theorem zv6(l:List (List UInt8)):(zeo l).length=l.length:=by simp[zeo]
theorem zxi(l m:List (List UInt8)):zeo (l++m)=zeo l++zeo m:=by simp[zeo]
abbrev SlT(lo hi:Nat)(w:World)(v:Value)(xs:List (List UInt8)):Prop:=Sl 1 lo hi w v xs.length (zeo xs)
theorem SlT.get {lo hi n cap:Nat} {a:Option Addr} {xs:List (List UInt8)}(h:SlT lo hi w (.slice a n cap) xs)(i:Nat)(hi':i<xs.length):
  ∃ b off,a=some ⟨b,off,none⟩/\lo<=b/\b<hi/\b<w.heap.size/\w.cell? (p_ b (off+i))=some (.string ⟨xs[i].toArray⟩):=by
 obtain⟨a',cap',e,_,_,_,_,hc⟩:=h;injection e with e1 _ _;subst e1;obtain⟨b,off,e2,k1,k2,k3,k4⟩:=hc i (by rw[zv6];exact hi');exact⟨b,off,e2,k1,k2,k3,by rw[k4];simp[zeo,hi']⟩
def zgh:List (List UInt8)->List UInt8
 | []=>[]
 | x :: r=>r.foldl (λs y=>s++44 :: y) x
theorem zzq(l:List (List UInt8))(hm:∀ x∈l,x.length<=1000):(zgh l).length<=1001*l.length:=by
 cases l with
 | nil=>simp[zgh]
 | cons x r=>
  have h1:=hm x (by simp)
  have h:∀ (r:List (List UInt8)) (s:List UInt8),(∀ y∈r,y.length<=1000)->(r.foldl (λs y=>s++44 :: y) s).length<=s.length+1001*r.length:=by
   intro r
   induction r with
   | nil=>intro s _;simp
   | cons y r ih=>
    intro s hy;have k1:=hy y (by simp);have k2:=ih (s++44 :: y) λz hz=>hy z (by simp[hz])
    simp only[List.foldl_cons,I_,n_]at k2 ⊢;omega
  have:=h r x λy hy=>hm y (by simp[hy])
  simp only[zgh,I_];omega
theorem zo9(l:List (List UInt8)):Lib.join l [44]=zgh l:=by
 cases l with
 | nil=>rfl
 | cons x r=>
  have h:∀ (r:List (List UInt8)) (s:List UInt8),Lib.join (s :: r) [44]=r.foldl (λs y=>s++44 :: y) s:=by
   intro r
   induction r with
   | nil=>intro s;simp[Lib.join]
   | cons y r ih=>
    intro s;rw[List.foldl_cons,<-ih];cases r<;>simp[Lib.join]
  exact h r x
theorem zv7(lo hi n cap:Nat)(a:Option Addr)(xs:List (List UInt8))(w:World)(hx:SlT lo hi w (.slice a n cap) xs)(h0:xs≠[])(hl:xs.length<=100)(hm:∀ x∈xs,x.length<=1000):
  c_ 94 #[.slice a n cap,.string ⟨#[44]⟩] w (.string ⟨(zgh xs).toArray⟩):=by
 obtain⟨_,_,hq,hn,_⟩:=ο hx;injection hq with _ q1 q2;subst q1 q2;have hpos:0<xs.length:=by cases xs with | nil=>exact absurd rfl h0 | cons=>simp
 obtain⟨b,o,rfl,_,_,hb,_⟩:=hx.get 0 hpos
 have e1:((xs.map λx=>(⟨x.toArray⟩:ByteArray)).map λz=>z.data.toList)=xs:=by
  rw[List.map_map];exact(List.map_congr_left (g:=id) λx _=>by simp).trans (List.map_id _)
 have h:=Tryz.strings_Join b o cap (xs.map λx=>⟨x.toArray⟩) ⟨#[44]⟩ w (λj x hj=>by
  rw[dz_]at hj;obtain⟨y,hy,rfl⟩:=W_.1 hj;obtain⟨hjl,rfl⟩:=a3_.1 hy;obtain⟨b',o',e,_,_,_,hc⟩:=hx.get j hjl;injection e with e;injection e with e2 e3;subst e2 e3
  exact hc) hb (by simp;omega) (by simpa using hn) (by
   rw[e1];have:=zzq xs hm;rw[show (⟨#[44]⟩:ByteArray).data.toList=[44] from rfl,zo9];omega)
 rw[e1,show (⟨#[44]⟩:ByteArray).data.toList=[44] from rfl,zo9,X_]at h;exact h
theorem zym(lo hi:Nat)(a b c d:Value)(D:Dsk)(w:World)(hE:za1 w)(hx:Ι lo hi w a b c d D)(hh:hi<=w)(hm:D.size<=1048576)(hv:Θ D=true):
  c_ 49 #[π a b c d,.string ⟨#[110,111,119]⟩] w (.string ⟨(za7 D.now).toArray⟩):=by
 have HM:=H_ hm;have HV:=H_ hv;have hmade:=(zch hv).2.2.2.1;have⟨w0,hw0⟩:=xa_ w #[a,b,c,d] 31;obtain⟨hb0,K_,hs0⟩:=Μ hw0;have K:=H_ K_;have HX:=H_ (hx.below hb0 hh);have HB:=H_ hb0;have HE:=H_ (hE.below hb0);have HW0:=H_ hw0;have⟨k0,k1,k2,k3⟩:=K.o.c4;unfold Dsk.size at hm;rw[hw0]at k0 k1 k2 k3;clear hx hE hb0 K_ hw0 hv
 go_enter func49,ntmps49
 go_wp2_with fail
 simp only[<-HW0.o];refine(zm6 _ D.now w0 (zec HX.o.now (by omega)) (by omega) HE.o.map).mono ?_;rintro e1 w1 ⟨rfl,hb1⟩;have HB1:=HB.tr hb1 (by omega);clear hb1 k0 k1 k2 k3;go_wp2;go_ret;exact⟨rfl,HB1.o⟩
theorem z3i(lo hi:Nat)(a b c d:Value)(D:Dsk)(w:World)(hE:za1 w)(hx:Ι lo hi w a b c d D)(hh:hi<=w)(hm:D.size<=1048576)(hv:Θ D=true):
  c_ 49 #[π a b c d,.string ⟨#[102,105,114,115,116]⟩] w (.string ⟨(za7 D.first).toArray⟩):=by
 have HM:=H_ hm;have HV:=H_ hv;have hmade:=(zch hv).2.2.2.1;have⟨w0,hw0⟩:=xa_ w #[a,b,c,d] 31;obtain⟨hb0,K_,hs0⟩:=Μ hw0;have K:=H_ K_;have HX:=H_ (hx.below hb0 hh);have HB:=H_ hb0;have HE:=H_ (hE.below hb0);have HW0:=H_ hw0;have⟨k0,k1,k2,k3⟩:=K.o.c4;unfold Dsk.size at hm;rw[hw0]at k0 k1 k2 k3;clear hx hE hb0 K_ hw0 hv
 go_enter func49,ntmps49
 go_wp2_with fail
 simp only[<-HW0.o];refine(zm6 _ D.first w0 (zec HX.o.first (by omega)) (by omega) HE.o.map).mono ?_;rintro e1 w1 ⟨rfl,hb1⟩;have HB1:=HB.tr hb1 (by omega);clear hb1 k0 k1 k2 k3;go_wp2;go_ret;exact⟨rfl,HB1.o⟩
theorem zxe(lo hi:Nat)(a b c d:Value)(D:Dsk)(w:World)(hE:za1 w)(hx:Ι lo hi w a b c d D)(hh:hi<=w)(hm:D.size<=1048576)(hv:Θ D=true):
  c_ 49 #[π a b c d,.string ⟨#[103,111,97,108]⟩] w (.string ⟨(za7 D.goal).toArray⟩):=by
 have HM:=H_ hm;have HV:=H_ hv;have hmade:=(zch hv).2.2.2.1;have⟨w0,hw0⟩:=xa_ w #[a,b,c,d] 31;obtain⟨hb0,K_,hs0⟩:=Μ hw0;have K:=H_ K_;have HX:=H_ (hx.below hb0 hh);have HB:=H_ hb0;have HE:=H_ (hE.below hb0);have HW0:=H_ hw0;have⟨k0,k1,k2,k3⟩:=K.o.c4;unfold Dsk.size at hm;rw[hw0]at k0 k1 k2 k3;clear hx hE hb0 K_ hw0 hv
 go_enter func49,ntmps49
 go_wp2_with fail
 simp only[<-HW0.o];refine(zm6 _ D.goal w0 (zec HX.o.goal (by omega)) (by omega) HE.o.map).mono ?_;rintro e1 w1 ⟨rfl,hb1⟩;have HB1:=HB.tr hb1 (by omega);clear hb1 k0 k1 k2 k3;go_wp2;go_ret;exact⟨rfl,HB1.o⟩
theorem z0e(lo hi:Nat)(a b c d:Value)(D:Dsk)(w:World)(hE:za1 w)(hx:Ι lo hi w a b c d D)(hh:hi<=w)(hm:D.size<=1048576)(hv:Θ D=true):
  c_ 49 #[π a b c d,.string ⟨#[109,111,118,101,115]⟩] w (.string ⟨(Η D.made.length).toArray⟩):=by
 have HM:=H_ hm;have HV:=H_ hv;have hmade:=(zch hv).2.2.2.1;have⟨w0,hw0⟩:=xa_ w #[a,b,c,d] 31;obtain⟨hb0,K_,hs0⟩:=Μ hw0;have K:=H_ K_;have HX:=H_ (hx.below hb0 hh);have HB:=H_ hb0;have HE:=H_ (hE.below hb0);have HW0:=H_ hw0;have⟨k0,k1,k2,k3⟩:=K.o.c4;unfold Dsk.size at hm;rw[hw0]at k0 k1 k2 k3;clear hx hE hb0 K_ hw0 hv;obtain⟨z0,z1,rfl,_,_⟩:=ο HX.o.made
 go_enter func49,ntmps49
 go_wp2_with fail
 simp only[<-HW0.o];refine(zmb D.made.length w0 (by omega)).mono ?_;rintro e1 w1 ⟨rfl,rfl⟩;clear k0 k1 k2 k3;go_wp2;go_ret;exact⟨rfl,HB.o⟩
theorem zxj(lo hi:Nat)(a b c d:Value)(D:Dsk)(w:World)(hE:za1 w)(hx:Ι lo hi w a b c d D)(hh:hi<=w)(hm:D.size<=1048576)(hv:Θ D=true):
  c_ 49 #[π a b c d,.string ⟨#[100,111,110,101]⟩] w (.string ⟨(if eqL D.now D.goal then zew else noT).toArray⟩):=by
 have HM:=H_ hm;have HV:=H_ hv;have hmade:=(zch hv).2.2.2.1;have⟨w0,hw0⟩:=xa_ w #[a,b,c,d] 31;obtain⟨hb0,K_,hs0⟩:=Μ hw0;have K:=H_ K_;have HX:=H_ (hx.below hb0 hh);have HB:=H_ hb0;have HE:=H_ (hE.below hb0);have HW0:=H_ hw0;have⟨k0,k1,k2,k3⟩:=K.o.c4;unfold Dsk.size at hm;rw[hw0]at k0 k1 k2 k3;clear hx hE hb0 K_ hw0 hv;have⟨E,hE⟩:=ex_ (eqL D.now D.goal);have HD:=H_ (show (Θ D&&eqL D.now D.goal)=E by rw[HV.o,hE];rfl);rw[<-hE];clear hE
 go_enter func49,ntmps49
 go_wp2_with fail
 simp only[<-HW0.o];refine(z1u _ _ a b c d D w0 HE.o HX.o (by omega) HM.o).mono ?_;rintro e1 w1 ⟨rfl,hb1⟩;have HB1:=HB.tr hb1 (by omega);rw[HD.o];clear hb1 k0 k1 k2 k3;cases E
 ·go_wp2
  go_ret;exact⟨rfl,HB1.o⟩
 ·go_wp2
  go_ret;exact⟨rfl,HB1.o⟩
theorem z08(lo hi:Nat)(a b c d:Value)(D:Dsk)(w:World)(hE:za1 w)(hx:Ι lo hi w a b c d D)(hh:hi<=w)(hm:D.size<=1048576)(hv:Θ D=true):
  c_ 49 #[π a b c d,.string ⟨#[101,110,100,115]⟩] w (.string ⟨(Ω (endsK (Ο D.now))).toArray⟩):=by
 have HM:=H_ hm;have HV:=H_ hv;have hmade:=(zch hv).2.2.2.1;have⟨w0,hw0⟩:=xa_ w #[a,b,c,d] 31;obtain⟨hb0,K_,hs0⟩:=Μ hw0;have K:=H_ K_;have HX:=H_ (hx.below hb0 hh);have HB:=H_ hb0;have HE:=H_ (hE.below hb0);have HW0:=H_ hw0;have⟨k0,k1,k2,k3⟩:=K.o.c4;unfold Dsk.size at hm;rw[hw0]at k0 k1 k2 k3;clear hx hE hb0 K_ hw0 hv;have HEV:=H_ (zsp (zch HV.o).2.2.1);have⟨n,hn⟩:=ex_ (endsK (Ο D.now));rw[<-hn]at HEV ⊢
 go_enter func49,ntmps49
 go_wp2_with fail
 simp only[<-HW0.o];refine(zu3 _ _ _ D.now w0 HX.o.now (by omega) (by omega)).mono ?_;rintro e1 w1 ⟨rfl,hb1⟩;rw[HEV.o.1];have HB1:=HB.tr hb1 (by omega);have HM1:=H_ (HE.o.map.below hb1);clear hb1 k0 k1 k2 k3 hn;go_wp2_with fail
 refine(zi6 n HEV.o.2 _ HM1.o).mono ?_;rintro e2 w2 ⟨rfl,rfl⟩;go_wp2;go_ret;exact⟨rfl,HB1.o⟩
theorem zwr(lo hi:Nat)(a b c d:Value)(D:Dsk)(w:World)(hE:za1 w)(hx:Ι lo hi w a b c d D)(hh:hi<=w)(hm:D.size<=1048576)(hv:Θ D=true):
  c_ 49 #[π a b c d,.string ⟨#[116,114,97,99,101]⟩] w (.string ⟨(difT (differV D.now D.goal)).toArray⟩):=by
 have HM:=H_ hm;have HV:=H_ hv;have hmade:=(zch hv).2.2.2.1;have⟨w0,hw0⟩:=xa_ w #[a,b,c,d] 31;obtain⟨hb0,K_,hs0⟩:=Μ hw0;have K:=H_ K_;have HX:=H_ (hx.below hb0 hh);have HB:=H_ hb0;have HE:=H_ (hE.below hb0);have HW0:=H_ hw0;have⟨k0,k1,k2,k3⟩:=K.o.c4;unfold Dsk.size at hm;rw[hw0]at k0 k1 k2 k3;clear hx hE hb0 K_ hw0 hv
 go_enter func49,ntmps49
 go_wp2_with fail
 simp only[<-HW0.o];refine(zof _ _ _ _ _ _ D.now D.goal w0 HX.o.now HX.o.goal (by omega) (by omega) (by omega) (by omega)).mono ?_;rintro e1 w1 ⟨r,rfl,hor,hb1⟩;have hz1:=hb1.size;have HB1:=HB.tr hb1 (by omega);clear hb1 k0 k1 k2 k3;rcases hor with⟨t,v4,ht,rfl,hov,hl⟩|⟨hn,rfl⟩
 ·have HT:=H_ ht
  have HO:=H_ hov;clear hov ht;go_wp2_with fail
  refine(z0s _ _ _ t w1 HO.o.sl (by omega) (le_ _)).mono ?_;rintro e2 w2 ⟨rfl,hb2⟩;have HB2:=HB1.tr hb2 (by omega);clear hb2;go_wp2;go_ret;exact⟨by rw[HT.o];rfl,HB2.o⟩
 ·have HN:=H_ hn
  clear hn;go_wp2;go_ret;exact⟨by rw[HN.o];rfl,HB1.o⟩
theorem z3a(a b c d:Value)(l:List UInt8)(hq:NoQ l)(w:World):
  c_ 49 #[π a b c d,.string ⟨l.toArray⟩] w (.string ⟨zg9.toArray⟩):=by
 have HB:=H_ (η w (.cells #[a,b,c,d] 31));obtain⟨n1,n2,n3,n4,n5,n6,n7,n8,n9⟩:=hq;have q1:=ao_ n1;have q2:=ao_ n2;have q3:=ao_ n3;have q4:=ao_ n4;have q5:=ao_ n5;have q6:=ao_ n6;have q7:=ao_ n7;have q8:=ao_ n8;have q9:=ao_ n9;clear n1 n2 n3 n4 n5 n6 n7 n8 n9
 go_enter func49,ntmps49
 go_wp2;go_ret;exact⟨rfl,HB.o⟩
section
open Go.Maps
open Go.ChangeMaps (setBlock)
theorem zhz(k:Int)(h1:-2<=k)(h2:k<=2):keyOf prog 3 k=some (.int .i64 k):=
 keyOf_int_mk underlying3 (dg_ ⟨by omega,by omega⟩)
abbrev enE(k:Int)(s:List UInt8)(n:Nat):MapEntry:={ key:=.int .i64 k,val:=.string ⟨s.toArray⟩,born:=n }
structure FewK(es:Array MapEntry):Prop where
 key:∀ e∈es.toList,∃ z:Int,e.key=.int .i64 z/\-2<=z/\z<=2
theorem zm8 {b:Nat} {es:Array MapEntry} {cl:Nat}(h1:w.heap[b]?=some (.map es cl))(hk:FewK es)(k:Int)(k1:-2<=k)(k2:k<=2)(hn:∀ e∈es.toList,e.key≠.int .i64 k)(v:Value):
  (Instr.mapUpdate 109 (.map (some b)) k v).run prog w=.ok () (setBlock w b (.map (es.push { key:=.int .i64 k,val:=v,born:=cl }) (cl+1))):=by
 have hc:=zf5.check w false (zhz k k1 k2)
 have hkeys:∀ e∈es.toList,∃ l,keyOf prog 3 e.key=some l:=λe he=>by
  obtain⟨z,g1,g2,g3⟩:=hk.key e he;exact⟨_,by rw[g1];exact zhz z g2 g3⟩
 rcases zf5.find w (zhz k k1 k2) es.toList hkeys with⟨f1,_⟩|⟨j,e,f1,f2,f3⟩
 ·simp[Instr.mapUpdate,c7_ underlying109,b9_ h1,hc,f1,MapKept.run_setObj_map _ h1,Result.andThen,setBlock]
 ·exact absurd f3 (hn e (cg_ f2))
theorem zms {b:Nat} {es:Array MapEntry} {cl:Nat}(h1:w.heap[b]?=some (.map es cl))(hk:FewK es)(k:Int)(k1:-2<=k)(k2:k<=2)(v:Value)(hv:∀ e∈es.toList,e.key=.int .i64 k->e.val=v)(hs:∃ e∈es.toList,e.key=.int .i64 k):
  (Instr.lookup 109 (.map (some b)) k false).run prog w=.ok v w:=by
 have hc:=zf5.check w es.isEmpty (zhz k k1 k2)
 have hkeys:∀ e∈es.toList,∃ l,keyOf prog 3 e.key=some l:=λe he=>by
  obtain⟨z,g1,g2,g3⟩:=hk.key e he;exact⟨_,by rw[g1];exact zhz z g2 g3⟩
 rcases zf5.find w (zhz k k1 k2) es.toList hkeys with⟨f1,f2⟩|⟨j,e,f1,f2,f3⟩
 ·obtain⟨e,he,hke⟩:=hs
  exact absurd hke (f2 e he)
 ·have e1:=hv e (cg_ f2) f3
  simp[Instr.lookup,c7_ underlying109,b9_ h1,hc,f1,Result.andThen,e1]
theorem zlr {b:Nat} {o:Obj}(h:b<w):(setBlock w b o).heap[b]?=some o:=by
 show (w.heap.setIfInBounds b _)[b]?=_
 rw[b7_,x_ rfl,x_ h]
theorem zmk {B:Nat} {w0:World} {b:Nat} {o:Obj}(h:Below B w0 w)(hb:B<=b):Below B w0 (setBlock w b o):=
 ⟨h.os,h.tape,h.output,by simpa [setBlock] using h.size,λi hi=>by
  show (w.heap.setIfInBounds b _)[i]?=_
  rw[b7_,m_ (by omega)];exact h.block i hi⟩
def esQ:Array MapEntry:=#[enE 1 zew 0,enE 0 noT 1,enE (-1) zlo 2]
theorem zl9:FewK esQ:=⟨λe he=>by
 simp only[esQ,N_,bj_,bx_]at he;rcases he with rfl|rfl|rfl
 ·exact⟨1,rfl,by omega,by omega⟩
 ·exact⟨0,rfl,by omega,by omega⟩
 ·exact⟨-1,rfl,by omega,by omega⟩⟩
theorem zus(w0:World):∃ w1 w2 w3:World,(Instr.mapUpdate 109 (.map (some w0.heap.size)) (1:Int) (.string ⟨#[121,101,115]⟩)).run prog (w0.alloc (.map #[] 0))=.ok () w1 /\
  (Instr.mapUpdate 109 (.map (some w0.heap.size)) (0:Int) (.string ⟨#[110,111]⟩)).run prog w1=.ok () w2 /\
  (Instr.mapUpdate 109 (.map (some w0.heap.size)) (.int .i64 (-1)) (.string ⟨#[111,112,101,110]⟩)).run prog w2=.ok () w3/\Below w0 w0 w3/\Blk w0 (.map esQ 3) w3:=by
 have h0:(w0.alloc (.map #[] 0)).heap[w0.heap.size]?=some (.map #[] 0):=ba_ w0 _;have hz:w0.heap.size<(w0.alloc (.map #[] 0)).heap.size:=by simp
 have h1:=zlr (o:=.map (#[].push (enE 1 zew 0)) 1) hz;have hz1:w0.heap.size<(setBlock (w0.alloc (.map #[] 0)) w0 (.map (#[].push (enE 1 zew 0)) 1)).heap.size:=by simp[setBlock]
 have h2:=zlr (o:=.map ((#[].push (enE 1 zew 0)).push (enE 0 noT 1)) 2) hz1;refine⟨_,_,_,zm8 h0 ⟨λe he=>by simp at he⟩ 1 (by omega) (by omega) (λe he=>by simp at he) _,zm8 h1 ⟨λe he=>?_⟩ 0 (by omega) (by omega) (λe he=>?_) _,zm8 h2 ⟨λe he=>?_⟩ (-1) (by omega) (by omega) (λe he=>?_) _,?_,?_⟩
 ·simp at he;subst he;exact⟨1,rfl,by omega,by omega⟩
 ·simp at he;subst he;simp
 ·simp at he
  rcases he with rfl|rfl
  ·exact⟨1,rfl,by omega,by omega⟩
  ·exact⟨0,rfl,by omega,by omega⟩
 ·simp at he
  rcases he with rfl|rfl<;>simp
 ·exact zmk (zmk (zmk (η _ _) (le_ _)) (le_ _)) (le_ _)
 ·exact zlr (by simp[setBlock])
theorem z2j {b:Nat}(h:Blk b (.map esQ 3) w)(i:Int)(hi:i=1\/i=0\/i=-1):(Instr.lookup 109 (.map (some b)) i false).run prog w=.ok (.string ⟨(eqT i).toArray⟩) w:=by
  rcases hi with rfl|rfl|rfl
  · exact zms h zl9 1 (by omega) (by omega) _ (λe he hk => by
      simp only[esQ,N_,bj_,bx_]at he;rcases he with rfl|rfl|rfl
      · rfl
      · simp at hk
      · simp at hk) ⟨enE 1 zew 0,by simp[esQ],rfl⟩
  · exact zms h zl9 0 (by omega) (by omega) _ (λe he hk => by
      simp only[esQ,N_,bj_,bx_]at he;rcases he with rfl|rfl|rfl
      · simp at hk
      · rfl
      · simp at hk) ⟨enE 0 noT 1,by simp[esQ],rfl⟩
  · exact zms h zl9 (-1) (by omega) (by omega) _ (λe he hk => by
      simp only[esQ,N_,bj_,bx_]at he;rcases he with rfl|rfl|rfl
      · simp at hk
      · simp at hk
      · rfl) ⟨enE (-1) zlo 2,by simp[esQ],rfl⟩
theorem ztv(lo hi:Nat)(a b c d:Value)(D:Dsk)(w:World)(hx:Ι lo hi w a b c d D)(hh:hi<=w)(hm:D.size<=1048576):
  c_ 49 #[π a b c d,.string ⟨#[101,113,117,97,108]⟩] w (.string ⟨(eqT (equalV D.now D.goal)).toArray⟩):=by
 have⟨w0,hw0⟩:=xa_ w #[a,b,c,d] 31;obtain⟨hb0,K_,hs0⟩:=Μ hw0;obtain⟨w1,w2,w3,r1,r2,r3,hb3,hk3⟩:=zus w0;have hz3:=hb3.size;have HX:=H_ ((hx.below hb0 hh).below hb3 (by omega));have HB:=H_ (hb0.trans (hb3.mono (by omega)));have HK3:=H_ hk3;have HER:=H_ (equal_range D.now D.goal);have K:=K_.below hb3 (by omega);have k1:=K.cell 1;have k3:=K.cell 3;have hmk:(Instr.makeMap 109 none).run prog w0=.ok (.map (some w0.heap.size)) (w0.alloc (.map #[] 0)):=rfl;unfold Dsk.size at hm;clear hx hb0 hb3 K_ K hk3
 go_enter func49,ntmps49
 go_upto_region 15 with fail
 simp only[<-hw0];clear hw0;go_wp2_with fail
 clear r1 r2 r3 hmk;refine(z02 _ _ _ _ _ _ D.now D.goal w3 HX.o.now HX.o.goal (by omega) (by omega) (by omega) (by omega)).mono ?_;rintro e1 w4 ⟨rfl,hb4⟩;have HB4:=HB.tr hb4 (by omega);have hl:=z2j (HK3.o.below hb4 HK3.o.lt) (equalV D.now D.goal) HER.o;have⟨i,hi⟩:=ex_ (equalV D.now D.goal);rw[<-hi]at hl ⊢;have HI:=H_ hi;clear hb4 k1 k3 hi;go_wp2;go_ret;exact⟨by rw[<-HI.o];rfl,HB4.o⟩
end
theorem zwm(ms:List Mv)(h:ms≠[]):zgh (ms.map Γ)=zda ms:=by
 cases ms with
 | nil=>exact absurd rfl h
 | cons m r=>simp[zgh,zda,List.foldl_map]
theorem zyh(lo hi:Nat)(a b c d:Value)(D:Dsk)(w:World)(hx:Ι lo hi w a b c d D)(hh:hi<=w)(hv:Θ D=true):
  c_ 49 #[π a b c d,.string ⟨#[112,114,111,111,102]⟩] w (.string ⟨(zda D.made).toArray⟩):=by
 have hmade:=(zch hv).2.2.2.1;have⟨w0,hw0⟩:=xa_ w #[a,b,c,d] 31;obtain⟨hb0,K_,hs0⟩:=Μ hw0;have HX:=H_ (hx.below hb0 hh).made;have HB:=H_ hb0;have k2:=K_.cell 2;obtain⟨za,zc,rfl,_,_⟩:=SlM.shape HX.o;have⟨ms,hms⟩:=ex_ D.made;rw[<-hms]at HX hmade k2 hw0 ⊢;have HM0:Q_ (Own 1 w0 w0 9 w0 () 0 (zeo ((ms.take 0).map Γ))/\Below w0 w0 w0):=H_ ⟨zaa _ _ _ _ _,B_ _ _⟩;clear hx hb0 K_ hv hms
 go_enter func49,ntmps49
 go_upto_region 22 with fail
 simp only[<-hw0];clear hw0;go_wp2;go_loopw [7,64] (λv i wr=>∃ k:Nat,k<=ms.length/\i=.int .i64 k/\Q_ (Own 1 w0 wr 9 wr v k (zeo ((ms.take k).map Γ))/\Below w0 w0 wr)) (λ_ i _=>ms.length-(intOf i).toNat)
 case atStart=>exact⟨0,by omega,rfl,HM0⟩
 case round=>
  rename World=>wr
  clear HM0;obtain⟨k,hk,rfl,HQ⟩:=hrel;have hwr:=HQ.o.2.size;obtain⟨qa,qc,hqv⟩:=θ HQ.o.1;subst hqv;by_cases hlt:k<ms.length
  ·obtain⟨b1,off,rfl,_,_,hb1,q0,q1,q2⟩:=(HX.o.below HQ.o.2 (by omega)).get k hlt
   have HTK:=H_ (show (ms.take (k+1)).map Γ=(ms.take k).map Γ++[Γ ms[k]] from by rw[F_ hlt,by_];rfl);have⟨m,hm⟩:=ex_ (ms[k]);rw[<-hm]at q0 q1 q2 HTK;clear hm;go_wp2_with fail
   have⟨w1,hw1⟩:=xa_ wr #[.int .i64 m.which,.bool m.back,.int .i64 m.at_] 67;have hb1:Below wr wr w1:=by rw[hw1];exact η _ _
   have hz1:=hb1.size;have HB1:=H_ hb1;simp only[<-hw1];clear hw1 hb1 q0 q1 q2;refine(zmx m w1).mono ?_;rintro e2 w2 ⟨rfl,hb2⟩;have hz2:=hb2.size;have HB2:=HB1.tr hb2 hz1;have HO2:=H_ ((HQ.o.1.below HB2.o (le_ _)).wide2 (le_ _) (show wr<=w2.heap.size by omega));have HQ2:=H_ (HQ.o.2.trans (HB2.o.mono hwr));clear hb2 HQ HB1;go_wp2_with (at_builtin;go_loud (refine zbt w2 rfl _ _ 26 rfl 9 (.string ⟨#[]⟩) 1 16 underlying26 zp0 rfl (by decide) (by decide) rfl HO2.o 1 [.string ⟨(Γ m).toArray⟩] rfl rfl (by intro u hu;simp only[k_] at hu;subst hu;rfl) rfl (by omega) (by omega) ?_))
   intro v3 w3 ho3 hg3 _ _;have hz3:=hg3.size;have hz3_:(w2.alloc (.cells #[.string ⟨(Γ m).toArray⟩] 9)).heap.size=w2.heap.size+1:=ν _ _;have ha3:=η w2 (.cells #[.string ⟨(Γ m).toArray⟩] 9)
   have HN:=H_ (show Own 1 w0 w3 9 w3 v3 (k+1) (zeo ((ms.take (k+1)).map Γ))/\Below w0 w0 w3 from ⟨by
    rw[HTK.o,zxi,ei_];exact ho3,δ (HQ2.o.trans (ha3.mono (by omega))) (zbz hg3 (HO2.o.alloc (.cells #[.string ⟨(Γ m).toArray⟩] 9)).lt) (le_ _) (by omega)⟩)
   obtain⟨y3,yc3,rfl⟩:=θ ho3;clear ho3 hg3 ha3 HO2 HQ2;go_wp2;go_roundw
   case rel=>exact⟨k+1,by omega,by go_num,HN⟩
   case measure=>first | (simp[intOf];done) | (simp[intOf];omega)
  ·obtain rfl:k=ms.length:=by omega
   by_cases h0:ms=[]
   ·(have hl0:ms.length<=0:=by simp[h0]);(have HR:=H_ (show zda ms=zio by rw[h0];rfl);have g9:((ms.length:Int)==0)=true:=by simp[h0]);clear h0;go_wp2;go_ret;exact⟨by rw[HR.o];rfl,HB.o.trans (HQ.o.2.mono (by omega))⟩
   ·(have hl0:0<ms.length:=by cases ms with | nil=>exact absurd rfl h0 | cons=>simp);(have HR:=H_ (zwm ms h0);have g9:((ms.length:Int)==0)=false:=by simp[h0]);(have HNE:=H_ (show ms.map Γ≠[] from λh=>h0 (List.map_eq_nil_iff.1 h)))
    have HSL:=H_ (show SlT w0 wr wr (.slice qa ms qc) (ms.map Γ) from by
     (have h:=HQ.o.1.sl;rw[Y_]at h);show Sl 1 _ _ _ _ (ms.map Γ).length _
     rw[X_];exact h)
    clear h0;go_wp2_with fail
    refine(zv7 _ _ _ _ _ (ms.map Γ) wr HSL.o HNE.o (by rw[X_];omega) (λx hx=>by
     obtain⟨m,_,rfl⟩:=aa_.1 hx;have:=zil m;omega)).mono ?_
    rintro e2 w2 ⟨rfl,hb2⟩;have HB2:=H_ (HB.o.trans ((HQ.o.2.trans (hb2.mono hwr)).mono (by omega)));clear hb2;go_wp2;go_ret;exact⟨by rw[HR.o];rfl,HB2.o⟩
theorem zmz(D:Dsk):zao D [110,111,119]=za7 D.now:=by unfold zao;rw[x_ rfl]
theorem zo8(D:Dsk):zao D [102,105,114,115,116]=za7 D.first:=by unfold zao;rw[m_ (by decide),x_ rfl]
theorem zpf(D:Dsk):zao D [103,111,97,108]=za7 D.goal:=by unfold zao;rw[m_ (by decide),m_ (by decide),x_ rfl]
theorem zpl(D:Dsk):zao D [109,111,118,101,115]=Η D.made.length:=by unfold zao;rw[m_ (by decide),m_ (by decide),m_ (by decide),x_ rfl]
theorem zq9(D:Dsk):zao D [100,111,110,101]=if eqL D.now D.goal then zew else noT:=by unfold zao;rw[m_ (by decide),m_ (by decide),m_ (by decide),m_ (by decide),x_ rfl]
theorem zrb(D:Dsk):zao D [101,113,117,97,108]=eqT (equalV D.now D.goal):=by unfold zao;rw[m_ (by decide),m_ (by decide),m_ (by decide),m_ (by decide),m_ (by decide),x_ rfl]
theorem zr7(D:Dsk):zao D [101,110,100,115]=Ω (endsK (Ο D.now)):=by unfold zao;rw[m_ (by decide),m_ (by decide),m_ (by decide),m_ (by decide),m_ (by decide),m_ (by decide),x_ rfl]
theorem znj(D:Dsk):zao D [116,114,97,99,101]=difT (differV D.now D.goal):=by unfold zao;rw[m_ (by decide),m_ (by decide),m_ (by decide),m_ (by decide),m_ (by decide),m_ (by decide),m_ (by decide),x_ rfl]
theorem zqv(D:Dsk):zao D [112,114,111,111,102]=zda D.made:=by unfold zao;rw[m_ (by decide),m_ (by decide),m_ (by decide),m_ (by decide),m_ (by decide),m_ (by decide),m_ (by decide),m_ (by decide),x_ rfl]
theorem z1o(lo hi:Nat)(a b c d:Value)(D:Dsk)(l:List UInt8)(w:World)(hE:za1 w)(hx:Ι lo hi w a b c d D)(hh:hi<=w)(hm:D.size<=1048576)(hv:Θ D=true):
  c_ 49 #[π a b c d,.string ⟨l.toArray⟩] w (.string ⟨(zao D l).toArray⟩):=by
 rcases zpb l with rfl|rfl|rfl|rfl|rfl|rfl|rfl|rfl|rfl|hq
 ·rw[zmz];exact zym lo hi a b c d D w hE hx hh hm hv
 ·rw[zo8];exact z3i lo hi a b c d D w hE hx hh hm hv
 ·rw[zpf];exact zxe lo hi a b c d D w hE hx hh hm hv
 ·rw[zpl];exact z0e lo hi a b c d D w hE hx hh hm hv
 ·rw[zq9];exact zxj lo hi a b c d D w hE hx hh hm hv
 ·rw[zrb];exact ztv lo hi a b c d D w hx hh hm
 ·rw[zr7];exact z08 lo hi a b c d D w hE hx hh hm hv
 ·rw[znj];exact zwr lo hi a b c d D w hE hx hh hm hv
 ·rw[zqv];exact zyh lo hi a b c d D w hx hh hv
 ·rw[zmm hq];exact z3a a b c d l hq w
theorem z3j(lo hi:Nat)(a b c d:Value)(D:Dsk)(l:List UInt8)(s:ByteArray)(hs:s=⟨l.toArray⟩)(w:World)(hE:za1 w)(hN:Env w)(hx:Ι lo hi w a b c d D)(hh:hi<=w)(hm:D.size<=1048576)(hv:Θ D=true)(hl:l.length<=2097152)(hr:zba l=none):
  Calls prog 20 #[π a b c d,.string s] w (zfj λa' b' c' d' s' w'=>s'=⟨(zao D l).toArray⟩/\Υ w w' w' a' b' c' d' D/\Below w w w'):=by
 subst hs;have HM:=H_ hm;have⟨w0,hw0⟩:=ex_ ((w.alloc (.cells #[a,b,c,d] 31)).alloc (.cells #[(),(),(),()] 31));have hb0:Below w w w0:=by rw[hw0];exact((B_ _ _).alloc (le_ _) _).alloc (by simp) _
 have hs0:w0=w.heap.size+2:=by rw[hw0];simp
 have K1:Q_ (Blk w (.cells #[a,b,c,d] 31) w0):=by
  rw[hw0];exact H_ ((κ w _).below ((B_ (w.alloc _).heap.size _).alloc (le_ _) _) (by simp))
 have K3:Q_ (Blk (w+1) (.cells #[(),(),(),()] 31) w0):=by
  have h:=κ (w.alloc (.cells #[a,b,c,d] 31)) (.cells #[(),(),(),()] 31);rw[ν]at h;rw[hw0];exact H_ h
 have HX:=H_ (hx.below hb0 hh);have HB:=H_ hb0;have HE:=H_ (hE.below hb0);have HN:=H_ (hN.below hb0);have HW0:=H_ hw0;have HV:=H_ hv;have HRA:=H_ hr;clear hx hE hN hb0 hw0 hv hr hm;have⟨d0,d1,d2,d3⟩:=K1.o.c4
 go_enter func20,ntmps20
 go_wp2_with (rw[<-HW0.o])
 refine(zg5 _ _ a b c d D w0 HE.o HX.o (by omega) HM.o).mono ?_;rintro e1 w1 ⟨rfl,hb1⟩;rw[HV.o];have hs1:=hb1.size;replace HB:=HB.tr hb1 (by omega);replace K1:=K1.kb hb1;replace K3:=K3.kb hb1;replace HX:=H_ (HX.o.below hb1 (by omega));replace HE:=H_ (HE.o.below hb1);replace HN:=H_ (HN.o.below hb1);clear hb1 d0 d1 d2 d3;go_wp2_with fail
 refine(zp6 l _ rfl w1 HN.o hl).mono ?_;rintro e2 w2 ⟨rfl,hb2⟩;rw[HRA.o,zhe];have hs2:=hb2.size;replace HB:=HB.tr hb2 (by omega);replace K1:=K1.kb hb2;replace K3:=K3.kb hb2;replace HX:=H_ (HX.o.below hb2 (by omega));replace HE:=H_ (HE.o.below hb2);clear hb2 HN;have⟨w3,hw3⟩:=xa_ w2 #[(0:Int),(0:Int),.bool false,(0:Int),(0:Int)] 69;obtain⟨hb3,KA_,hs3⟩:=Μ hw3;replace HB:=HB.tr hb3 (by omega);replace K1:=K1.kb hb3;replace K3:=K3.kb hb3;replace HX:=H_ (HX.o.below hb3 (by omega));replace HE:=H_ (HE.o.below hb3);have hgs:∀ w',Below w3 w3 w'->w'.cell? (p_ w 0)=some a/\w'.cell? (p_ w 1)=some b/\w'.cell? (p_ w 2)=some c/\w'.cell? (p_ w 3)=some d:=λw' hb=>⟨(K1.o.below hb K1.o.lt).cell 0,(K1.o.below hb K1.o.lt).cell 1,(K1.o.below hb K1.o.lt).cell 2,(K1.o.below hb K1.o.lt).cell 3⟩
 have hbA:Below w3 w3 w3.drew:=z_ (B_ _ _);have hS:=hgs w3 (B_ _ _);have hSA:=hgs _ hbA;have HGS:=H_ hgs;have hdz:w3.drew.heap.size=w3.heap.size:=rfl;have HXd:=H_ (HX.o.below hbA (by omega));clear hb3 KA_ hgs;go_upto_region 5 with fail
 simp only[<-hw3];clear hw3
 go_region_held3 (λw'=>w'.cell? (p_ w 0)=some a/\w'.cell? (p_ w 1)=some b/\w'.cell? (p_ w 2)=some c/\w'.cell? (p_ w 3)=some d) (first | with_reducible assumption | go_keep) (first
  | (go_at_call 37;refine(zjy _ _ a b c d D w3.drew HXd.o (by omega) HM.o).mono ?_;rintro e5 w5 ⟨y0,y1,y2,y3,rfl,o_,hb_⟩;obtain⟨z0,z1,z2,z3,z4,z5,z6,z7,i0,i1,i2,i3⟩:=o_.open;subst i0 i1 i2 i3;(have hs5:=hb_.size);(have hb5:=hbA.trans (hb_.mono (by omega)));(have hS5:=HGS.o _ hb5);(have HB5:=H_ hb5);(have O5:=H_ o_);clear hb_ hb5 o_)
  | (go_at_call 49;refine(z1o _ _ a b c d D l w5 (HE.o.below HB5.o) (HX.o.below HB5.o (by omega)) (by omega) HM.o HV.o).mono ?_;rintro e6 w6 ⟨rfl,hb_⟩;(have hs6:=hb_.size);(have hb6:=HB5.o.trans (hb_.mono (by omega)));(have hS6:=HGS.o _ hb6);(have k3:=K3.o.below hb6 K3.o.lt);(obtain⟨c0,c1,c2,c3⟩:=k3.c4);(obtain⟨f0,f1,f2,f3⟩:=k3.f4);(have KM:=H_ k3);(have hO_:=β.set4 (w+1) w6 (.slice z0 D.first z1) (.slice z2 D.goal z3) (.slice z4 D.made z5) (.slice z6 D.now z7));(have k1_:=(K1.o.below hb6 K1.o.lt).outside hO_ (.inl (by omega)));(obtain⟨j0,j1,j2,j3⟩:=k1_.c4);(have O6:=H_ (O5.o.below hb_ (by omega)));(have HB6:=H_ hb6);clear hb_ hb6 k3 hO_ k1_))
 have⟨wz,hwz⟩:=x4_ w6 (w+1) (.slice z0 D.first z1) (.slice z2 D.goal z3) (.slice z4 D.made z5) (.slice z6 D.now z7);have KZ:=KM.o.set4 (.slice z0 D.first z1) (.slice z2 D.goal z3) (.slice z4 D.made z5) (.slice z6 D.now z7);have hO:=β.set4 (w+1) w6 (.slice z0 D.first z1) (.slice z2 D.goal z3) (.slice z4 D.made z5) (.slice z6 D.now z7);rw[<-hwz]at KZ hO;have hsz:=hO.size;have HZ:=H_ (δ (HB.o.trans (HB6.o.mono (by omega))) hO (by omega) (by omega));have OZ:=H_ (O6.o.outside hO (.inr (by omega)));obtain⟨q0,q1,q2,q3⟩:=KZ.c4;clear KZ hO hS hSA hS5 hS6 hbA c0 c1 c2 c3 f0 f1 f2 f3 j0 j1 j2 j3;simp only[<-hwz];clear hwz;go_wp2;refine d_ (v:=.tuple #[π (.slice z0 D.first z1) (.slice z2 D.goal z3) (.slice z4 D.made z5) (.slice z6 D.now z7),.string ⟨(zao D l).toArray⟩]) (by simp[results,results20,go_sem,q0,q1,q2,q3]) rfl ⟨_,_,_,_,_,rfl,rfl,?_,HZ.o⟩;exact OZ.o.wide (by omega) (by omega)
theorem zz9(lo hi:Nat)(a b c d:Value)(D:Dsk)(s:ByteArray)(w:World)(hE:za1 w)(hx:Ι lo hi w a b c d D)(hh:hi<=w)(hm:D.size<=1048576)(hv:Θ D=false):
  Calls prog 20 #[π a b c d,.string s] w (zfj λa' b' c' d' s' w'=>s'=⟨#[]⟩/\Υ w w' w' a' b' c' d' Dsk.none/\Below w w w'):=by
 have HM:=H_ hm;have⟨w0,hw0⟩:=ex_ ((w.alloc (.cells #[a,b,c,d] 31)).alloc (.cells #[(),(),(),()] 31));have hb0:Below w w w0:=by rw[hw0];exact((B_ _ _).alloc (le_ _) _).alloc (by simp) _
 have hs0:w0=w.heap.size+2:=by rw[hw0];simp
 have K1:Q_ (Blk w (.cells #[a,b,c,d] 31) w0):=by
  rw[hw0];exact H_ ((κ w _).below ((B_ (w.alloc _).heap.size _).alloc (le_ _) _) (by simp))
 have K3:Q_ (Blk (w+1) (.cells #[(),(),(),()] 31) w0):=by
  have h:=κ (w.alloc (.cells #[a,b,c,d] 31)) (.cells #[(),(),(),()] 31);rw[ν]at h;rw[hw0];exact H_ h
 have HX:=H_ (hx.below hb0 hh);have HB:=H_ hb0;have HE:=H_ (hE.below hb0);have HW0:=H_ hw0;have HV:=H_ hv;clear hx hE hb0 hw0 hv hm;have⟨d0,d1,d2,d3⟩:=K1.o.c4
 go_enter func20,ntmps20
 go_wp2_with (rw[<-HW0.o])
 refine(zg5 _ _ a b c d D w0 HE.o HX.o (by omega) HM.o).mono ?_;rintro e1 w1 ⟨rfl,hb1⟩;rw[HV.o];have hs1:=hb1.size;replace HB:=HB.tr hb1 (by omega);replace K3:=K3.kb hb1;clear hb1 d0 d1 d2 d3;have⟨c0,c1,c2,c3⟩:=K3.o.c4;have⟨f0,f1,f2,f3⟩:=K3.o.f4;have⟨wz,hwz⟩:=x4_ w1 (w+1) () () () ();have KZ:=K3.o.set4 () () () ();have hO:=β.set4 (w+1) w1 () () () ();rw[<-hwz]at KZ hO;have HZ:=H_ (δ HB.o hO (by omega) (by omega));obtain⟨q0,q1,q2,q3⟩:=KZ.c4;clear KZ hO;go_wp2;simp only[<-hwz];clear hwz;refine d_ (v:=.tuple #[π () () () (),.string ⟨#[]⟩]) (by simp[results,results20,go_sem,q0,q1,q2,q3]) rfl ⟨_,_,_,_,_,rfl,rfl,?_,HZ.o⟩;exact Υ.nils _ _ HZ.o.size wz
theorem zte(b:Bool):okS b=⟨(okT b).toArray⟩:=by cases b<;>rfl
theorem zlt(lo hi:Nat)(a b c d:Value)(D:Dsk)(l:List UInt8)(s:ByteArray)(hs:s=⟨l.toArray⟩)(w:World)(hE:za1 w)(hN:Env w)(hx:Ι lo hi w a b c d D)(hh:hi<=w)(hm:D.size<=1048576)(hl:l.length<=2097152):
  Calls prog 20 #[π a b c d,.string s] w (zfj λa' b' c' d' s' w'=>s'=⟨(za3 D l).2.toArray⟩/\Υ w w' w' a' b' c' d' (za3 D l).1/\Below w w w'):=by
 cases hv:Θ D with
 | false=>
  rw[show za3 D l=(Dsk.none,[]) by unfold za3;rw[hv];rfl];exact zz9 lo hi a b c d D s w hE hx hh hm hv
 | true=>
  cases hr:zba l with
  | none=>
   rw[show za3 D l=(D,zao D l) by unfold za3 zd3;rw[hv,hr];rfl];exact z3j lo hi a b c d D l s hs w hE hN hx hh hm hv hl hr
  | some A=>
   rw[show za3 D l=((Χ D A).1,okT (Χ D A).2) by unfold za3 zd3;rw[hv,hr];rfl];have h:=z1v lo hi a b c d D A l s hs w hE hN hx hh hm hv hl hr;rw[zte]at h;exact h
theorem zst(h1:k<=xs.length)(h2:k<=ys.length)(h:∀ j (_:j<k) (h2:j<xs.length) (h3:j<ys.length),xs[j]=ys[j]):ltL xs ys=ltL (xs.drop k) (ys.drop k):=by
 have e:xs.take k=ys.take k:=by
  refine bd_ (by simp;omega) λi a b=>?_
  simp only[b1_];simp at a b;exact h i (by omega) (by omega) (by omega)
 conv=>lhs;rw[<-List.take_append_drop k xs,<-List.take_append_drop k ys,e]
 exact ltL_pre _ _ _
theorem zv9(h1:k<xs.length)(h2:k<ys.length)(h:∀ j (_:j<k) (h2:j<xs.length) (h3:j<ys.length),xs[j]=ys[j])(hne:xs[k]≠ys[k]):ltL xs ys=decide (xs[k]<ys[k]):=by
 rw[zst (by omega) (by omega) h,y_ h1,y_ h2,ltL];by_cases hl:xs[k]<ys[k]
 ·simp[hl]
 ·have:ys[k]<xs[k]:=by omega
  simp[hl,this]
theorem zrh(h1:k<=xs.length)(h2:k<=ys.length)(hk:k=xs.length\/k=ys.length)(h:∀ j (_:j<k) (h2:j<xs.length) (h3:j<ys.length),xs[j]=ys[j]):ltL xs ys=decide (xs.length<ys.length):=by
 rw[zst h1 h2 h];have l1:(xs.drop k).length=xs.length-k:=af_;have l2:(ys.drop k).length=ys.length-k:=af_;cases hx:xs.drop k<;>cases hy:ys.drop k<;>rw[hx] at l1<;>rw[hy] at l2<;>simp only[an_,I_] at l1 l2<;>simp only[ltL]
 ·symm;simp;omega
 ·symm;simp;omega
 ·symm;simp;omega
 ·omega
theorem zqj(lo hi lo' hi':Nat)(v v':Value)(xs ys:List Int)(w:World)(hx:SlI lo hi w v xs)(hy:SlI lo' hi' w v' ys)(hm:xs.length<=16777216)(hm':ys.length<=16777216):
  c_ 113 #[v,v'] w (.bool (ltL xs ys)):=by
 obtain⟨a,cap,rfl,hcap,hcm,hc⟩:=hx.open;obtain⟨a',cap',rfl,hcap',hcm',hc'⟩:=hy.open;clear hx hcm hy hcm' hcap hcap'
 go_enter func113,ntmps113
 go_wp2;go_loopw [5] (λi wr=>∃ k m:Nat,k<=xs.length/\k<=ys.length/\i=.int .i64 k/\Q_ (∀ j (_:j<k) (h2:j<xs.length) (h3:j<ys.length),xs[j]=ys[j])/\wr=w.drewN m) (λi _=>xs.length-(intOf i).toNat)
 case atStart=>exact⟨0,0,by omega,by omega,rfl,H_ (by intro j h;omega),rfl⟩
 case round=>
  obtain⟨k,m,hk,hk',rfl,HJ,rfl⟩:=hrel;by_cases hlt:k<xs.length
  ·by_cases hlt':k<ys.length
   ·(obtain⟨b,off,rfl,_,_,hbs,hck⟩:=hc k hlt);obtain⟨b',off',rfl,_,_,hbs',hck'⟩:=hc' k hlt';clear hc hc';by_cases he:xs[k]=ys[k]
    ·(have HE:=H_ he);(have he1:(xs[k] !=ys[k])=false:=by simp[he]);clear he;go_wp2
     go_quiet (fail)
     go_wp2;go_roundw
     case rel=>
      refine⟨k+1,m+nq,by omega,by omega,by go_num,H_ ?_,by first | rfl | rw[cq_]⟩;intro j h1 h2 h3;rcases bi_ j k with h|h
      ·exact HJ.o j h h2 h3
      ·(obtain rfl:j=k:=by omega);exact HE.o
     case measure=>simp[intOf];omega
    ·(have HE:=H_ (zv9 hlt hlt' HJ.o he));(have he1:(xs[k] !=ys[k])=true:=by simp[he]);clear he;go_wp2
     go_quiet (fail)
     go_wp2
     go_quiet (fail)
     go_wp2;go_ret;exact⟨φ HE.o.symm,ai_ (ai_ (ai_ (B_ _ _) _) _) _⟩
   ·(obtain rfl:k=ys.length:=by omega);have HE:=H_ (zrh hk (le_ _) (.inr rfl) HJ.o);go_wp2;go_ret;exact⟨φ (by rw[HE.o]<;>simp),ai_ (B_ _ _) _⟩
  ·obtain rfl:k=xs.length:=by omega
   have HE:=H_ (zrh (le_ _) hk' (.inl rfl) HJ.o);go_wp2;go_ret;exact⟨φ (by rw[HE.o]<;>simp),ai_ (B_ _ _) _⟩
end Go.Proofs.YtfnnhimopokpnaaGreatDoor
