/- Lemmas for this seat; no condition. -/
import Derived.Test.YtfnnhimopokpnaaGreatDoorHDAQ
import Derived.Test.YtfnnhimopokpnaaGreatDoorHDAR
namespace Go.Proofs.YtfnnhimopokpnaaGreatDoor
open Go.RowKit Proofs.Tryz
set_option maxRecDepth 100000
set_option maxHeartbeats 0
set_option linter.all false
variable {N st d s k:Nat} {w:World} {xs ys:List Int}
def zh9(M:Mach)(c:List In3)(N st:Nat)(d a s:Nat):Prop:=1<=d/\d<=N+1/\runS (stepC M c) N (0,st)=(runS (stepC M c) (N+1-d) (a,s)).map λr=>(r.1,r.2+(d-1))
theorem zh9.next {M:Mach} {c:List In3} {a:Nat}(h:zh9 M c N st d a s)(hd:d<=N){p:Nat × Nat}(hp:stepC M c (a,s)=some p):zh9 M c N st (d+1) p.1 p.2:=by
 obtain⟨h1,h2,h3⟩:=h;refine⟨by omega,by omega,?_⟩;rw[h3,show N+1-d=(N+1-(d+1))+1 by omega,runS_step hp,dq_]
 congr 1
 funext r
 simp only[Function.comp];rw[show d+1-1=d-1+1 by omega];simp only[bf_,true_and];omega
theorem zh9.done {M:Mach} {c:List In3} {a:Nat}(h:zh9 M c N st d a s)(hd:d<=N)(hp:stepC M c (a,s)=none):runS (stepC M c) N (0,st)=some ((a,s),d):=by
 obtain⟨h1,h2,h3⟩:=h;rw[h3,show N+1-d=(N-d)+1 by omega,runS_end hp];simp only[cn_,ar_,bf_,true_and];omega
theorem ztj(a b:Nat)(ha:a<1048576)(hb:b<1048576):((a:Int)+b-((a &&& b:Nat):Int))=((a ||| b:Nat):Int):=by
 have:=or_add_and 20 a b (by omega);omega
theorem zmi(a b:Nat)(ha:a<1048576)(hb:b<1048576)(w:World):Calls prog 157 #[.int .i64 a,.int .i64 b] w λe w'=>e=.returned ((a ||| b:Nat):Int)/\w=w':=by
 have I:=H_ (ztj a b ha hb);have HB:=H_ (zpg a b ha hb w);have E:a &&& b<=a:=do_;have⟨c,hc⟩:=ex_ (a &&& b);rw[<-hc]at HB I E;clear hc
 go_enter func157,ntmps157
 go_wp2_with fail
 refine HB.o.mono ?_;rintro e _ ⟨rfl,rfl⟩;go_wp2;go_ret;exact⟨zdh I.o,rfl⟩
def EndC(t:KT):Prop:=∀ (lo hi:Nat) (v:Value) (w:World),SlI lo hi w v t.post->t.ok 0=true->t.size<=2000->hi<=w ->
 c_ 110 #[v] w ((endsK t:Nat):Int)
theorem zl3:∀ t:KT,EndC t:=by
 intro t
 induction t with
 | leaf n=>
  intro lo hi v w hx I hs hh;simp only[KT.ok,j_,t_]at I;obtain⟨b8,b4⟩:=I;obtain⟨a,cap,rfl,_,_⟩:=π hx;obtain⟨b,off,rfl,b6,hb2,b7,hcell⟩:=hx.get 0 (by simp[KT.post]);have Z:w.cell? (p_ b off)=some (.int .i64 n):=hcell;have hlen:(KT.leaf n).post.length=1:=rfl;rw[hlen];clear hx hlen hcell;by_cases b5:n<=15
  ·have HE:=H_ (show n=((endsK (.leaf n):Nat):Int) by unfold endsK;rw[m_ (by omega)];omega)
   go_enter func110,ntmps110
   go_wp2;go_ret;exact⟨zdh HE.o,B_ _ _⟩
  ·have HE:=H_ (show (0:Int)=((endsK (.leaf n):Nat):Int) by unfold endsK;rw[x_ (by omega)];rfl)
   go_enter func110,ntmps110
   go_wp2;go_ret;exact⟨zdh HE.o,B_ _ _⟩
 | star x ih=>
  intro lo hi v w hx I hs hh;simp only[KT.size]at hs;have hlen:(KT.star x).post.length=x.size+1:=by rw[zaz];rfl
  obtain⟨a,cap,rfl,_,a1⟩:=π hx;obtain⟨b,off,rfl⟩:=hx.notNil (by omega)
  have Z:w.cell? (p_ b (off+x.size))=some (.int .i64 21):=by
   obtain⟨b',a8,e,_,_,_,hc⟩:=hx.get x.size (by omega);injection e with e;injection e with e1 e2;subst e1 e2;rw[hc];simp[KT.post,<-zaz]
  rw[hlen];clear ih I hx a1
  go_enter func110,ntmps110
  go_wp2;go_ret;exact⟨rfl,B_ _ _⟩
 | bin p x y a6 a7=>
  intro lo hi v w hx I hs hh;simp only[KT.ok,j_]at I;obtain⟨K,J⟩:=I;simp only[KT.size]at hs;have hlen:(KT.bin p x y).post.length=x.size+y.size+1:=by rw[zaz];rfl
  have E:=H_ (show Calls prog 156 #[v] w (zir λa b w2=>Below w w w2/\SlI lo hi w2 a x.post/\SlI lo hi w2 b y.post) from
   (zg4 lo hi v 0 p x y w hx (by omega) J).mono (by rintro e w2 ⟨va,vb,rfl,⟨m,rfl⟩,ha,hb⟩;exact⟨va,vb,rfl,ai_ (B_ _ _) m,ha,hb⟩))
  obtain⟨a,cap,rfl,_,a1⟩:=π hx;obtain⟨b,off,rfl⟩:=hx.notNil (by omega)
  have Z:w.cell? (p_ b (off+(x.size+y.size)))=some (.int .i64 (KT.op p)):=by
   obtain⟨b',a8,e,_,_,_,hc⟩:=hx.get (x.size+y.size) (by omega);injection e with e;injection e with e1 e2;subst e1 e2;rw[hc];simp[KT.post,<-zaz]
  rw[hlen]at E ⊢;have a4:=H_ a6;have a5:=H_ a7;have b1:=zeg K;have b2:=zeg J;have b0:=H_ (zmi (endsK x) (endsK y) (by omega) (by omega));have a9:=H_ (zpg (endsK x) (endsK y) (by omega) (by omega));have a3:=H_ (show endsK (.bin p x y)=if p then endsK x ||| endsK y else endsK x &&& endsK y from rfl);clear a6 a7 hx b1 b2 a1;cases p
  ·have a2:KT.op false=19:=rfl
   rw[a2]at Z
   go_enter func110,ntmps110
   go_wp2_with fail
   refine E.o.mono ?_;rintro e w2 ⟨va,vb,rfl,h_,ha,hb⟩;have hs2:=h_.size;have HB:=H_ h_;have HA:=H_ ha;have U:=H_ hb;obtain⟨aa,ac,rfl,_,_⟩:=π ha;obtain⟨ba,bc,rfl,_,_⟩:=π hb;clear h_ ha hb E;go_wp2_with fail
   refine(a4.o lo hi _ w2 HA.o K (by omega) (by omega)).mono ?_;rintro e w3 ⟨rfl,hb⟩;have b3:=hb.size;replace HB:=HB.ts hb;replace U:=H_ (U.o.below hb (by omega));clear hb HA;go_wp2_with fail
   refine(a5.o lo hi _ w3 U.o J (by omega) (by omega)).mono ?_;rintro e w4 ⟨rfl,hb⟩;replace HB:=HB.ts hb;clear hb U;go_wp2_with fail
   refine(a9.o w4).mono ?_;rintro e _ ⟨rfl,rfl⟩;go_wp2;go_ret;exact⟨by rw[a3.o];rfl,HB.o⟩
  ·have a2:KT.op true=20:=rfl
   rw[a2]at Z
   go_enter func110,ntmps110
   go_wp2_with fail
   refine E.o.mono ?_;rintro e w2 ⟨va,vb,rfl,h_,ha,hb⟩;have hs2:=h_.size;have HB:=H_ h_;have HA:=H_ ha;have U:=H_ hb;obtain⟨aa,ac,rfl,_,_⟩:=π ha;obtain⟨ba,bc,rfl,_,_⟩:=π hb;clear h_ ha hb E;go_wp2_with fail
   refine(a4.o lo hi _ w2 HA.o K (by omega) (by omega)).mono ?_;rintro e w3 ⟨rfl,hb⟩;have b3:=hb.size;replace HB:=HB.ts hb;replace U:=H_ (U.o.below hb (by omega));clear hb HA;go_wp2_with fail
   refine(a5.o lo hi _ w3 U.o J (by omega) (by omega)).mono ?_;rintro e w4 ⟨rfl,hb⟩;replace HB:=HB.ts hb;clear hb U;go_wp2_with fail
   refine(b0.o w4).mono ?_;rintro e _ ⟨rfl,rfl⟩;go_wp2;go_ret;exact⟨by rw[a3.o];rfl,HB.o⟩
noncomputable def zd6(e:List Int):Int:=if ν e then ((endsK (Τ e):Nat):Int) else -1
theorem z0f(lo hi:Nat)(v:Value)(es:List Int)(w:World)(hx:SlI lo hi w v es)(hm:es.length<=1048576)(K:hi<=w):
  c_ 58 #[v] w (.int .i64 (zd6 es)):=by
 obtain⟨a,cap,rfl,_,_⟩:=π hx;have I:=H_ hx;clear hx;cases hk:ν es with
 | true=>
  obtain⟨t,h1,h2,_,h4⟩:=zex hk;have E:=H_ (show zd6 es=((endsK t:Nat):Int) by rw[zd6,hk,x_ rfl,<-h2,zee h1]);have J:=H_ (zl3 t lo hi (.slice a es cap) w (by rw[h2];exact I.o) h1 (by omega) K);clear h1 h2 h4
  go_enter func58,ntmps58
  go_wp2_with fail
  refine(zag _ _ _ es _ I.o (by omega)).mono ?_;rintro e w1 ⟨rfl,rfl⟩;rw[hk];clear hk;go_wp2_with fail
  refine J.o.mono ?_;rintro e w2 ⟨rfl,hb⟩;have HB:=H_ hb;clear hb;go_wp2;go_ret;exact⟨zdh E.o.symm,HB.o⟩
 | false=>
  have E:=H_ (show zd6 es=-1 by rw[zd6,hk];rfl)
  go_enter func58,ntmps58
  go_wp2_with fail
  refine(zag _ _ _ es _ I.o (by omega)).mono ?_;rintro e w1 ⟨rfl,rfl⟩;rw[hk];clear hk;go_wp2;go_ret;exact⟨zdh E.o.symm,B_ _ _⟩
theorem zru {e:List Int}(h:ν e=true):zd6 e=((endsK (Τ e):Nat):Int)/\endsK (Τ e)<16:=by
 refine⟨by rw[zd6,h,x_ rfl],?_⟩;obtain⟨t,h1,h2,_,_⟩:=zex h;rw[<-h2,zee h1];exact zeg h1
theorem zxk(lo hi:Nat)(v:Value)(es:List Int)(w:World)(hx:SlI lo hi w v es)(hm:es.length<=1048576)(K:hi<=w):
  c_ 96 #[v] w (.int .i64 (zd6 es)):=by
 obtain⟨a,cap,rfl,_,_⟩:=π hx;have I:=H_ hx;clear hx;cases hk:ν es with
 | true=>
  obtain⟨t,h1,h2,_,h4⟩:=zex hk;have E:=H_ (show zd6 es=((endsK t:Nat):Int) by rw[zd6,hk,x_ rfl,<-h2,zee h1]);have J:=H_ (zm9 lo hi (.slice a es cap) t w (by rw[h2];exact I.o) K (by omega) h1);clear h1 h2 h4
  go_enter func96,ntmps96
  go_wp2_with fail
  refine(zc3 _ _ _ es _ I.o (by omega)).mono ?_;rintro e w1 ⟨rfl,rfl⟩;rw[hk];clear hk;go_wp2_with fail
  refine J.o.mono ?_;rintro e w2 ⟨rfl,hb⟩;have HB:=H_ hb;clear hb;go_wp2;go_ret;exact⟨zdh E.o.symm,HB.o⟩
 | false=>
  have E:=H_ (show zd6 es=-1 by rw[zd6,hk];rfl)
  go_enter func96,ntmps96
  go_wp2_with fail
  refine(zc3 _ _ _ es _ I.o (by omega)).mono ?_;rintro e w1 ⟨rfl,rfl⟩;rw[hk];clear hk;go_wp2;go_ret;exact⟨zdh E.o.symm,B_ _ _⟩
theorem zyr(B b:Nat)(bs:List Value)(c:Int)(w:World)(h:Lib.IsBuilderF 156 5 B b bs w)(hlen:bs.length+1<=1073741824)(a3:B<=w.heap.size):
  Calls prog 143 #[.pointer (q_ b 0),.int .u8 c] w λe w'=>e=.returned .nilIface/\(Lib.BuilderAtF 156 5 B b (.pointer (q_ b 0)) (bs++[.int .u8 c]) w'/\Below B w w'):=by
 obtain⟨i0,hi,U,Z,a1⟩:=b8_ zvo
 go_enter func143,ntmps143
 go_wp2_with (go_at_call 185;refine(zxs B b bs _ h).mono ?_)
 rintro e w1 ⟨rfl,h1,J⟩;obtain⟨hB,v,K,hown,hne⟩:=h1;have c0:w1.cell? (p_ b 0)=some (.pointer (q_ b 0)):=by rw[al_ K];rfl
 have c1:w1.cell? (p_ b 1)=some v:=by rw[al_ K];rfl
 go_wp2_with (at_builtin;refine wpList_append_ownF _ rfl _ _ 40 rfl B 5 i0 (.int .u8 0) 1 1 underlying40 hi U Z a1 rfl (by decide) _ _ _ rfl (hown.alloc _) (p_ w1 0) 1 1 [.int .u8 c] rfl rfl ?c1 ?c2 ?c3 ?c4 ?c5 ?_)
 case c1=>
  intro j u hj
  match j,hj with
  | 0,hj=>simp at hj;subst hj;simp[Addr.add]
 case c2=>intro u hu;simp at hu;subst hu;rfl
 case c3=>unfold maxLen;omega
 case c4=>omega
 case c5=>have:=J.size;simp;omega
 intro v' w2 I E _
 have hlt:b<w1:=by
  rcases bi_ b w1 with h'|h'
  ·exact h'
  ·simp[Array.getElem?_eq_none h']at K
 have hb2:w2.heap[b]?=some (.cells #[.pointer (q_ b 0),v] 156 (0,0)):=by
  rw[E.block b (by simp;omega) (λe=>hne e.symm),Lib.alloc_old w1 _ b hlt];exact K
 have d0:w2.cell? (p_ b 0)=some (.pointer (q_ b 0)):=by rw[al_ hb2];rfl
 have d1:w2.cell? (p_ b 1)=some v:=by rw[al_ hb2];rfl
 have f1:w2.frozen? (p_ b 1)=false:=bs_ hb2 1
 obtain⟨g,cap,rfl⟩:∃ g cap,v'=.slice (some ⟨g,0,none⟩) (bs.length+1) cap:=by
  rcases I.2 with⟨_,h0⟩|⟨g,cap,a2,fz,hv,_⟩
  ·omega
  ·exact⟨g,cap,hv⟩
 go_wp2;go_ret;refine⟨rfl,?_,?_⟩
 ·exact Lib.BuilderAtF.put (T:=156) (e:=5) hB hb2 (bs':=bs++[.int .u8 c]) (by simpa using I) (by decide)
 ·exact((J.alloc (by have:=J.size;omega) _).grown E (by have:=J.size;simp;omega) (λk hk=>(hown.lt k hk).1)).setCell (p:=p_ b 1) hB _
theorem zsw(B b:Nat)(bs:List UInt8)(c:Int)(w:World)(h:Bld B b bs w)(hlen:bs.length+1<=1073741824)(E:B<=w.heap.size)(c0:0<=c)(c1:c<=255):
  Calls prog 143 #[.pointer (q_ b 0),.int .u8 c] w λe w'=>e=.returned .nilIface/\Bld B b (bs++[UInt8.ofNat c.toNat]) w'/\Below B w w':=by
 refine(zyr B b _ c w h (by rw[Lib.byteCells_length];exact hlen) E).mono ?_;rintro e w' ⟨rfl,h1,h2⟩;refine⟨rfl,.inr ?_,h2⟩
 have:Lib.byteCells bs++[.int .u8 c]=Lib.byteCells (bs++[UInt8.ofNat c.toNat]):=by
  simp[Lib.byteCells];omega
 rw[<-this];exact h1
theorem zto(lo hi:Nat)(v:Value)(xs:List Int)(w:World)(hx:SlI lo hi w v xs)(hm:xs.length<=1048576)(a2:hi<=w):
  c_ 92 #[v] w (.string ⟨(zew xs).toArray⟩):=by
 have J:=hx;obtain⟨a,cap,rfl,Z,a1,hc⟩:=hx.open;clear hx a1 Z hc;cases hv:zbd xs
 ·have HX:=H_ J
  clear J
  go_enter func92,ntmps92
  go_wp2_with (go_at_call 142;refine(zr0 _ _ _ xs _ HX.o hm).mono ?_;rintro e w' ⟨rfl,rfl⟩)
  go_ret;exact⟨zbw (a:=[]) (by simp[zew,hv]),B_ _ _⟩
 ·have HX:=H_ J
  clear J;have hlen:=(zw2 hv).2
  go_enter func92,ntmps92
  go_wp2_with (go_at_call 142;refine(zr0 _ _ _ xs _ HX.o hm).mono ?_;rintro e w' ⟨rfl,rfl⟩)
  go_loopw [11] (λi wr=>∃ k:Nat,∃ l:List UInt8,k<=xs.length/\i=.int .i64 k/\l.length<=k/\Q_ (l=zeb 0 (xs.take k))/\Bld w w l wr/\Below w w wr) (λi _=>xs.length-(intOf i).toNat)
  case atStart=>exact⟨0,[],by omega,rfl,le_ _,H_ rfl,z0v w,(B_ _ _).alloc (le_ _) _⟩
  case round=>
   obtain⟨k,l,hk,rfl,a7,HL,HB,hb⟩:=hrel;have K:=H_ HB;clear HB;have U:=HX.o.below hb a2;by_cases hlt:k<xs.length
   ·(obtain⟨b,off,rfl,_,_,a6,hcell⟩:=U.get k hlt);have I:=hb.size;have E:=H_ hb;clear U hb;by_cases hp:k%2=0
    ·(have a3:((k:Int)%2==0)=true:=by simp;omega);(obtain⟨a4,a5⟩:=zo9 hv k hlt hp;have HT:=H_ (show zel k xs[k]=UInt8.ofNat (48+xs[k]).toNat by simp[zel,hp]);clear hp;go_wp2_with (go_at_call 143;refine(zsw w w l _ _ K.o (by omega) I (by omega) (by omega)).mono ?_;rintro e w1 ⟨rfl,h1,h2⟩));go_roundw
     (case rel=>exact⟨k+1,l++[UInt8.ofNat (48+xs[k]).toNat],by omega,by go_num,by simp;omega,H_ (by rw[zk8 xs k hlt,HL.o,HT.o]),h1,E.o.trans h2⟩);case measure=>simp[intOf];omega
    ·(have a3:((k:Int)%2==0)=false:=by simp;omega);(obtain⟨a4,a5⟩:=zqq hv k hlt hp;have HT:=H_ (show zel k xs[k]=UInt8.ofNat (97+xs[k]-16).toNat by simp[zel,hp];congr 2;omega);clear hp;go_wp2_with (go_at_call 143;refine(zsw w w l _ _ K.o (by omega) I (by omega) (by omega)).mono ?_;rintro e w1 ⟨rfl,h1,h2⟩));go_roundw
     (case rel=>exact⟨k+1,l++[UInt8.ofNat (97+xs[k]-16).toNat],by omega,by go_num,by simp;omega,H_ (by rw[zk8 xs k hlt,HL.o,HT.o]),h1,E.o.trans h2⟩);case measure=>simp[intOf];omega
   ·(obtain rfl:k=xs.length:=by omega);(have I:=hb.size;have E:=H_ hb;clear U hb;go_wp2_with (go_at_call 144;refine(ztf w w l _ K.o I).mono ?_;rintro e w1 ⟨rfl,h1⟩));go_ret;exact⟨zbw (by rw[HL.o,Y_];simp[zew,hv]),E.o.trans h1⟩
theorem z0k(lo hi:Nat)(a b c d:Value)(D:Dsk)(w:World)(hE:zax w)(hx:Θ lo hi w a b c d D)(hh:hi<=w)(hm:D.size<=1048576)(hv:φ D=true):
  c_ 49 #[ο a b c d,.string ⟨#[110,111,119]⟩] w (.string ⟨(zbr D.now).toArray⟩):=by
 have HM:=H_ hm;have HV:=H_ hv;have a1:=(zbu hv).2.2.2.1;have⟨w0,I⟩:=xa_ w #[a,b,c,d] 31;obtain⟨E,K_,a2⟩:=Η I;have K:=H_ K_;have HX:=H_ (hx.below E hh);have HB:=H_ E;have HE:=H_ (hE.below E);have Z:=H_ I;have⟨k0,k1,k2,k3⟩:=K.o.c4;unfold Dsk.size at hm;rw[I]at k0 k1 k2 k3;clear hx hE E K_ I hv
 go_enter func49,ntmps49
 go_wp2_with fail
 simp only[<-Z.o];refine(znu _ D.now w0 (zd0 HX.o.now (by omega)) (by omega) HE.o.map).mono ?_;rintro e1 w1 ⟨rfl,J⟩;have U:=HB.tr J (by omega);clear J k0 k1 k2 k3;go_wp2;go_ret;exact⟨rfl,U.o⟩
theorem zyn(lo hi:Nat)(a b c d:Value)(D:Dsk)(w:World)(hE:zax w)(hx:Θ lo hi w a b c d D)(hh:hi<=w)(hm:D.size<=1048576)(hv:φ D=true):
  c_ 49 #[ο a b c d,.string ⟨#[102,105,114,115,116]⟩] w (.string ⟨(zbr D.first).toArray⟩):=by
 have HM:=H_ hm;have HV:=H_ hv;have a1:=(zbu hv).2.2.2.1;have⟨w0,I⟩:=xa_ w #[a,b,c,d] 31;obtain⟨E,K_,a2⟩:=Η I;have K:=H_ K_;have HX:=H_ (hx.below E hh);have HB:=H_ E;have HE:=H_ (hE.below E);have Z:=H_ I;have⟨k0,k1,k2,k3⟩:=K.o.c4;unfold Dsk.size at hm;rw[I]at k0 k1 k2 k3;clear hx hE E K_ I hv
 go_enter func49,ntmps49
 go_wp2_with fail
 simp only[<-Z.o];refine(znu _ D.first w0 (zd0 HX.o.first (by omega)) (by omega) HE.o.map).mono ?_;rintro e1 w1 ⟨rfl,J⟩;have U:=HB.tr J (by omega);clear J k0 k1 k2 k3;go_wp2;go_ret;exact⟨rfl,U.o⟩
theorem ztm(lo hi:Nat)(a b c d:Value)(D:Dsk)(w:World)(hE:zax w)(hx:Θ lo hi w a b c d D)(hh:hi<=w)(hm:D.size<=1048576)(hv:φ D=true):
  c_ 49 #[ο a b c d,.string ⟨#[103,111,97,108]⟩] w (.string ⟨(zbr D.goal).toArray⟩):=by
 have HM:=H_ hm;have HV:=H_ hv;have a1:=(zbu hv).2.2.2.1;have⟨w0,I⟩:=xa_ w #[a,b,c,d] 31;obtain⟨E,K_,a2⟩:=Η I;have K:=H_ K_;have HX:=H_ (hx.below E hh);have HB:=H_ E;have HE:=H_ (hE.below E);have Z:=H_ I;have⟨k0,k1,k2,k3⟩:=K.o.c4;unfold Dsk.size at hm;rw[I]at k0 k1 k2 k3;clear hx hE E K_ I hv
 go_enter func49,ntmps49
 go_wp2_with fail
 simp only[<-Z.o];refine(znu _ D.goal w0 (zd0 HX.o.goal (by omega)) (by omega) HE.o.map).mono ?_;rintro e1 w1 ⟨rfl,J⟩;have U:=HB.tr J (by omega);clear J k0 k1 k2 k3;go_wp2;go_ret;exact⟨rfl,U.o⟩
theorem zvn(lo hi:Nat)(a b c d:Value)(D:Dsk)(w:World)(hE:zax w)(hx:Θ lo hi w a b c d D)(hh:hi<=w)(hm:D.size<=1048576)(hv:φ D=true):
  c_ 49 #[ο a b c d,.string ⟨#[109,111,118,101,115]⟩] w (.string ⟨(Ε D.made.length).toArray⟩):=by
 have HM:=H_ hm;have HV:=H_ hv;have U:=(zbu hv).2.2.2.1;have⟨w0,I⟩:=xa_ w #[a,b,c,d] 31;obtain⟨E,Z,a1⟩:=Η I;have K:=H_ Z;have HX:=H_ (hx.below E hh);have HB:=H_ E;have HE:=H_ (hE.below E);have J:=H_ I;have⟨k0,k1,k2,k3⟩:=K.o.c4;unfold Dsk.size at hm;rw[I]at k0 k1 k2 k3;clear hx hE E Z I hv;obtain⟨z0,z1,rfl,_,_⟩:=π HX.o.made
 go_enter func49,ntmps49
 go_wp2_with fail
 simp only[<-J.o];refine(zl1 D.made.length w0 (by omega)).mono ?_;rintro e1 w1 ⟨rfl,rfl⟩;clear k0 k1 k2 k3;go_wp2;go_ret;exact⟨rfl,HB.o⟩
theorem zyf(lo hi:Nat)(a b c d:Value)(D:Dsk)(w:World)(hE:zax w)(hx:Θ lo hi w a b c d D)(hh:hi<=w)(hm:D.size<=1048576)(hv:φ D=true):
  c_ 49 #[ο a b c d,.string ⟨#[100,111,110,101]⟩] w (.string ⟨(if eqL D.now D.goal then zdp else noT).toArray⟩):=by
 have HM:=H_ hm;have HV:=H_ hv;have a2:=(zbu hv).2.2.2.1;have⟨w0,J⟩:=xa_ w #[a,b,c,d] 31;obtain⟨I,K_,a3⟩:=Η J;have K:=H_ K_;have HX:=H_ (hx.below I hh);have HB:=H_ I;have HE:=H_ (hE.below I);have a1:=H_ J;have⟨k0,k1,k2,k3⟩:=K.o.c4;unfold Dsk.size at hm;rw[J]at k0 k1 k2 k3;clear hx hE I K_ J hv;have⟨E,hE⟩:=ex_ (eqL D.now D.goal);have HD:=H_ (show (φ D&&eqL D.now D.goal)=E by rw[HV.o,hE];rfl);rw[<-hE];clear hE
 go_enter func49,ntmps49
 go_wp2_with fail
 simp only[<-a1.o];refine(zuu _ _ a b c d D w0 HE.o HX.o (by omega) HM.o).mono ?_;rintro e1 w1 ⟨rfl,Z⟩;have U:=HB.tr Z (by omega);rw[HD.o];clear Z k0 k1 k2 k3;cases E
 ·go_wp2
  go_ret;exact⟨rfl,U.o⟩
 ·go_wp2
  go_ret;exact⟨rfl,U.o⟩
theorem zye(lo hi:Nat)(a b c d:Value)(D:Dsk)(w:World)(hE:zax w)(hx:Θ lo hi w a b c d D)(hh:hi<=w)(hm:D.size<=1048576)(hv:φ D=true):
  c_ 49 #[ο a b c d,.string ⟨#[101,110,100,115]⟩] w (.string ⟨(Υ (endsK (Τ D.now))).toArray⟩):=by
 have HM:=H_ hm;have HV:=H_ hv;have a3:=(zbu hv).2.2.2.1;have⟨w0,I⟩:=xa_ w #[a,b,c,d] 31;obtain⟨E,K_,a4⟩:=Η I;have K:=H_ K_;have HX:=H_ (hx.below E hh);have HB:=H_ E;have HE:=H_ (hE.below E);have a2:=H_ I;have⟨k0,k1,k2,k3⟩:=K.o.c4;unfold Dsk.size at hm;rw[I]at k0 k1 k2 k3;clear hx hE E K_ I hv;have J:=H_ (zru (zbu HV.o).2.2.1);have⟨n,hn⟩:=ex_ (endsK (Τ D.now));rw[<-hn]at J ⊢
 go_enter func49,ntmps49
 go_wp2_with fail
 simp only[<-a2.o];refine(zxk _ _ _ D.now w0 HX.o.now (by omega) (by omega)).mono ?_;rintro e1 w1 ⟨rfl,U⟩;rw[J.o.1];have Z:=HB.tr U (by omega);have a1:=H_ (HE.o.map.below U);clear U k0 k1 k2 k3 hn;go_wp2_with fail
 refine(zkb n J.o.2 _ a1.o).mono ?_;rintro e2 w2 ⟨rfl,rfl⟩;go_wp2;go_ret;exact⟨rfl,Z.o⟩
theorem ztu(lo hi:Nat)(a b c d:Value)(D:Dsk)(w:World)(hE:zax w)(hx:Θ lo hi w a b c d D)(hh:hi<=w)(hm:D.size<=1048576)(hv:φ D=true):
  c_ 49 #[ο a b c d,.string ⟨#[116,114,97,99,101]⟩] w (.string ⟨(zhf (differV D.now D.goal)).toArray⟩):=by
 have HM:=H_ hm;have HV:=H_ hv;have a3:=(zbu hv).2.2.2.1;have⟨w0,I⟩:=xa_ w #[a,b,c,d] 31;obtain⟨E,K_,a5⟩:=Η I;have K:=H_ K_;have HX:=H_ (hx.below E hh);have HB:=H_ E;have HE:=H_ (hE.below E);have a2:=H_ I;have⟨k0,k1,k2,k3⟩:=K.o.c4;unfold Dsk.size at hm;rw[I]at k0 k1 k2 k3;clear hx hE E K_ I hv
 go_enter func49,ntmps49
 go_wp2_with fail
 simp only[<-a2.o];refine(zrd _ _ _ _ _ _ D.now D.goal w0 HX.o.now HX.o.goal (by omega) (by omega) (by omega) (by omega)).mono ?_;rintro e1 w1 ⟨r,rfl,a4,J⟩;have a6:=J.size;have U:=HB.tr J (by omega);clear J k0 k1 k2 k3;rcases a4 with⟨t,v4,ht,rfl,Z,hl⟩|⟨hn,rfl⟩
 ·have HT:=H_ ht
  have HO:=H_ Z;clear Z ht;go_wp2_with fail
  refine(zto _ _ _ t w1 HO.o.sl (by omega) (le_ _)).mono ?_;rintro e2 w2 ⟨rfl,hb2⟩;have a1:=U.tr hb2 (by omega);clear hb2;go_wp2;go_ret;exact⟨by rw[HT.o];rfl,a1.o⟩
 ·have HN:=H_ hn
  clear hn;go_wp2;go_ret;exact⟨by rw[HN.o];rfl,U.o⟩
theorem zwu(a b c d:Value)(l:List UInt8)(hq:NoQ l)(w:World):
  c_ 49 #[ο a b c d,.string ⟨l.toArray⟩] w (.string ⟨zjz.toArray⟩):=by
 have HB:=H_ (ζ w (.cells #[a,b,c,d] 31));obtain⟨E,I,J,K,U,Z,n7,n8,n9⟩:=hq;have q1:=ao_ E;have q2:=ao_ I;have q3:=ao_ J;have q4:=ao_ K;have q5:=ao_ U;have q6:=ao_ Z;have q7:=ao_ n7;have q8:=ao_ n8;have q9:=ao_ n9;clear E I J K U Z n7 n8 n9
 go_enter func49,ntmps49
 go_wp2;go_ret;exact⟨rfl,HB.o⟩
section
open Go.Maps
open Go.ChangeMaps (setBlock)
theorem zhg(k:Int)(h1:-2<=k)(h2:k<=2):keyOf prog 3 k=some (.int .i64 k):=
 keyOf_int_mk underlying3 (dg_ ⟨by omega,by omega⟩)
abbrev enE(k:Int)(s:List UInt8)(n:Nat):MapEntry:={ key:=.int .i64 k,val:=.string ⟨s.toArray⟩,born:=n }
structure FewK(es:Array MapEntry):Prop where
 key:∀ e∈es.toList,∃ z:Int,e.key=.int .i64 z/\-2<=z/\z<=2
theorem znt {b:Nat} {es:Array MapEntry} {cl:Nat}(h1:w.heap[b]?=some (.map es cl))(hk:FewK es)(k:Int)(k1:-2<=k)(k2:k<=2)(hn:∀ e∈es.toList,e.key≠.int .i64 k)(v:Value):
  (Instr.mapUpdate 109 (.map (some b)) k v).run prog w=.ok () (setBlock w b (.map (es.push { key:=.int .i64 k,val:=v,born:=cl }) (cl+1))):=by
 have hc:=zgz.check w false (zhg k k1 k2)
 have E:∀ e∈es.toList,∃ l,keyOf prog 3 e.key=some l:=λe he=>by
  obtain⟨z,g1,K,U⟩:=hk.key e he;exact⟨_,by rw[g1];exact zhg z K U⟩
 rcases zgz.find w (zhg k k1 k2) es.toList E with⟨f1,_⟩|⟨j,e,f1,I,J⟩
 ·simp[Instr.mapUpdate,c7_ underlying109,b9_ h1,hc,f1,MapKept.run_setObj_map _ h1,Result.andThen,setBlock]
 ·exact absurd J (hn e (cg_ I))
theorem zlt {b:Nat} {es:Array MapEntry} {cl:Nat}(h1:w.heap[b]?=some (.map es cl))(hk:FewK es)(k:Int)(k1:-2<=k)(k2:k<=2)(v:Value)(hv:∀ e∈es.toList,e.key=.int .i64 k->e.val=v)(hs:∃ e∈es.toList,e.key=.int .i64 k):
  (Instr.lookup 109 (.map (some b)) k false).run prog w=.ok v w:=by
 have hc:=zgz.check w es.isEmpty (zhg k k1 k2)
 have E:∀ e∈es.toList,∃ l,keyOf prog 3 e.key=some l:=λe he=>by
  obtain⟨z,g1,U,Z⟩:=hk.key e he;exact⟨_,by rw[g1];exact zhg z U Z⟩
 rcases zgz.find w (zhg k k1 k2) es.toList E with⟨f1,I⟩|⟨j,e,f1,I,K⟩
 ·obtain⟨e,he,J⟩:=hs
  exact absurd J (I e he)
 ·have e1:=hv e (cg_ I) K
  simp[Instr.lookup,c7_ underlying109,b9_ h1,hc,f1,Result.andThen,e1]
theorem zl9 {b:Nat} {o:Obj}(h:b<w):(setBlock w b o).heap[b]?=some o:=by
 show (w.heap.setIfInBounds b _)[b]?=_
 rw[b7_,x_ rfl,x_ h]
theorem zmn {B:Nat} {w0:World} {b:Nat} {o:Obj}(h:Below B w0 w)(hb:B<=b):Below B w0 (setBlock w b o):=
 ⟨h.os,h.tape,h.output,by simpa [setBlock] using h.size,λi hi=>by
  show (w.heap.setIfInBounds b _)[i]?=_
  rw[b7_,m_ (by omega)];exact h.block i hi⟩
def esQ:Array MapEntry:=#[enE 1 zdp 0,enE 0 noT 1,enE (-1) zjq 2]
theorem zms:FewK esQ:=⟨λe he=>by
 simp only[esQ,N_,bj_,bx_]at he;rcases he with rfl|rfl|rfl
 ·exact⟨1,rfl,by omega,by omega⟩
 ·exact⟨0,rfl,by omega,by omega⟩
 ·exact⟨-1,rfl,by omega,by omega⟩⟩
theorem z1e(w0:World):∃ w1 w2 w3:World,(Instr.mapUpdate 109 (.map (some w0.heap.size)) (1:Int) (.string ⟨#[121,101,115]⟩)).run prog (w0.alloc (.map #[] 0))=.ok () w1 /\
  (Instr.mapUpdate 109 (.map (some w0.heap.size)) (0:Int) (.string ⟨#[110,111]⟩)).run prog w1=.ok () w2 /\
  (Instr.mapUpdate 109 (.map (some w0.heap.size)) (.int .i64 (-1)) (.string ⟨#[111,112,101,110]⟩)).run prog w2=.ok () w3/\Below w0 w0 w3/\Blk w0 (.map esQ 3) w3:=by
 have h0:(w0.alloc (.map #[] 0)).heap[w0.heap.size]?=some (.map #[] 0):=ba_ w0 _;have hz:w0.heap.size<(w0.alloc (.map #[] 0)).heap.size:=by simp
 have h1:=zl9 (o:=.map (#[].push (enE 1 zdp 0)) 1) hz;have E:w0.heap.size<(setBlock (w0.alloc (.map #[] 0)) w0 (.map (#[].push (enE 1 zdp 0)) 1)).heap.size:=by simp[setBlock]
 have h2:=zl9 (o:=.map ((#[].push (enE 1 zdp 0)).push (enE 0 noT 1)) 2) E;refine⟨_,_,_,znt h0 ⟨λe he=>by simp at he⟩ 1 (by omega) (by omega) (λe he=>by simp at he) _,znt h1 ⟨λe he=>?_⟩ 0 (by omega) (by omega) (λe he=>?_) _,znt h2 ⟨λe he=>?_⟩ (-1) (by omega) (by omega) (λe he=>?_) _,?_,?_⟩
 ·simp at he;subst he;exact⟨1,rfl,by omega,by omega⟩
 ·simp at he;subst he;simp
 ·simp at he
  rcases he with rfl|rfl
  ·exact⟨1,rfl,by omega,by omega⟩
  ·exact⟨0,rfl,by omega,by omega⟩
 ·simp at he
  rcases he with rfl|rfl<;>simp
 ·exact zmn (zmn (zmn (ζ _ _) (le_ _)) (le_ _)) (le_ _)
 ·exact zl9 (by simp[setBlock])
theorem zvv {b:Nat}(h:Blk b (.map esQ 3) w)(i:Int)(hi:i=1\/i=0\/i=-1):(Instr.lookup 109 (.map (some b)) i false).run prog w=.ok (.string ⟨(eqT i).toArray⟩) w:=by
  rcases hi with rfl|rfl|rfl
  · exact zlt h zms 1 (by omega) (by omega) _ (λe he hk => by
      simp only[esQ,N_,bj_,bx_]at he;rcases he with rfl|rfl|rfl
      · rfl
      · simp at hk
      · simp at hk) ⟨enE 1 zdp 0,by simp[esQ],rfl⟩
  · exact zlt h zms 0 (by omega) (by omega) _ (λe he hk => by
      simp only[esQ,N_,bj_,bx_]at he;rcases he with rfl|rfl|rfl
      · simp at hk
      · rfl
      · simp at hk) ⟨enE 0 noT 1,by simp[esQ],rfl⟩
  · exact zlt h zms (-1) (by omega) (by omega) _ (λe he hk => by
      simp only[esQ,N_,bj_,bx_]at he;rcases he with rfl|rfl|rfl
      · simp at hk
      · simp at hk
      · rfl) ⟨enE (-1) zjq 2,by simp[esQ],rfl⟩
theorem zx9(lo hi:Nat)(a b c d:Value)(D:Dsk)(w:World)(hx:Θ lo hi w a b c d D)(hh:hi<=w)(hm:D.size<=1048576):
  c_ 49 #[ο a b c d,.string ⟨#[101,113,117,97,108]⟩] w (.string ⟨(eqT (equalV D.now D.goal)).toArray⟩):=by
 have⟨w0,U⟩:=xa_ w #[a,b,c,d] 31;obtain⟨I,K_,a5⟩:=Η U;obtain⟨w1,w2,w3,r1,r2,r3,E,a1⟩:=z1e w0;have a6:=E.size;have HX:=H_ ((hx.below I hh).below E (by omega));have HB:=H_ (I.trans (E.mono (by omega)));have Z:=H_ a1;have a3:=H_ (equal_range D.now D.goal);have K:=K_.below E (by omega);have k1:=K.cell 1;have k3:=K.cell 3;have a4:(Instr.makeMap 109 none).run prog w0=.ok (.map (some w0.heap.size)) (w0.alloc (.map #[] 0)):=rfl;unfold Dsk.size at hm;clear hx I E K_ K a1
 go_enter func49,ntmps49
 go_upto_region 15 with fail
 simp only[<-U];clear U;go_wp2_with fail
 clear r1 r2 r3 a4;refine(zz9 _ _ _ _ _ _ D.now D.goal w3 HX.o.now HX.o.goal (by omega) (by omega) (by omega) (by omega)).mono ?_;rintro e1 w4 ⟨rfl,J⟩;have a2:=HB.tr J (by omega);have hl:=zvv (Z.o.below J Z.o.lt) (equalV D.now D.goal) a3.o;have⟨i,hi⟩:=ex_ (equalV D.now D.goal);rw[<-hi]at hl ⊢;have HI:=H_ hi;clear J k1 k3 hi;go_wp2;go_ret;exact⟨by rw[<-HI.o];rfl,a2.o⟩
end
theorem zva(ms:List Mv)(h:ms≠[]):zgf (ms.map Β)=zcr ms:=by
 cases ms with
 | nil=>exact absurd rfl h
 | cons m r=>simp[zgf,zcr,List.foldl_map]
theorem zvt(lo hi:Nat)(a b c d:Value)(D:Dsk)(w:World)(hx:Θ lo hi w a b c d D)(hh:hi<=w)(hv:φ D=true):
  c_ 49 #[ο a b c d,.string ⟨#[112,114,111,111,102]⟩] w (.string ⟨(zcr D.made).toArray⟩):=by
 have a2:=(zbu hv).2.2.2.1;have⟨w0,K⟩:=xa_ w #[a,b,c,d] 31;obtain⟨Z,K_,b9⟩:=Η K;have HX:=H_ (hx.below Z hh).made;have HB:=H_ Z;have k2:=K_.cell 2;obtain⟨za,zc,rfl,_,_⟩:=SlM.shape HX.o;have⟨ms,b0⟩:=ex_ D.made;rw[<-b0]at HX a2 k2 K ⊢;have a6:Q_ (Own 1 w0 w0 9 w0 () 0 (zb9 ((ms.take 0).map Β))/\Below w0 w0 w0):=H_ ⟨Ω _ _ _ _ _,B_ _ _⟩;clear hx Z K_ hv b0
 go_enter func49,ntmps49
 go_upto_region 22 with fail
 simp only[<-K];clear K;go_wp2;go_loopw [7,64] (λv i wr=>∃ k:Nat,k<=ms.length/\i=.int .i64 k/\Q_ (Own 1 w0 wr 9 wr v k (zb9 ((ms.take k).map Β))/\Below w0 w0 wr)) (λ_ i _=>ms.length-(intOf i).toNat)
 case atStart=>exact⟨0,by omega,rfl,a6⟩
 case round=>
  rename World=>wr
  clear a6;obtain⟨k,hk,rfl,I⟩:=hrel;have b2:=I.o.2.size;obtain⟨qa,qc,b6⟩:=η I.o.1;subst b6;by_cases hlt:k<ms.length
  ·obtain⟨b1,off,rfl,_,_,J,q0,q1,q2⟩:=(HX.o.below I.o.2 (by omega)).get k hlt
   have a8:=H_ (show (ms.take (k+1)).map Β=(ms.take k).map Β++[Β ms[k]] from by rw[F_ hlt,by_];rfl);have⟨m,hm⟩:=ex_ (ms[k]);rw[<-hm]at q0 q1 q2 a8;clear hm;go_wp2_with fail
   have⟨w1,a4⟩:=xa_ wr #[.int .i64 m.which,.bool m.back,.int .i64 m.at_] 67;have J:Below wr wr w1:=by rw[a4];exact ζ _ _
   have b7:=J.size;have a5:=H_ J;simp only[<-a4];clear a4 J q0 q1 q2;refine(zmq m w1).mono ?_;rintro e2 w2 ⟨rfl,hb2⟩;have c6:=hb2.size;have E:=a5.tr hb2 b7;have U:=H_ ((I.o.1.below E.o (le_ _)).wide2 (le_ _) (show wr<=w2.heap.size by omega));have a7:=H_ (I.o.2.trans (E.o.mono b2));clear hb2 I a5;go_wp2_with (at_builtin;go_loud (refine zbn w2 rfl _ _ 26 rfl 9 (.string ⟨#[]⟩) 1 16 underlying26 zce rfl (by decide) (by decide) rfl U.o 1 [.string ⟨(Β m).toArray⟩] rfl rfl (by intro u hu;simp only[k_] at hu;subst hu;rfl) rfl (by omega) (by omega) ?_))
   intro v3 w3 a3 a1 _ _;have c7:=a1.size;have b8:(w2.alloc (.cells #[.string ⟨(Β m).toArray⟩] 9)).heap.size=w2.heap.size+1:=μ _ _;have a9:=ζ w2 (.cells #[.string ⟨(Β m).toArray⟩] 9)
   have HN:=H_ (show Own 1 w0 w3 9 w3 v3 (k+1) (zb9 ((ms.take (k+1)).map Β))/\Below w0 w0 w3 from ⟨by
    rw[a8.o,zek,ei_];exact a3,ε (a7.o.trans (a9.mono (by omega))) (zb1 a1 (U.o.alloc (.cells #[.string ⟨(Β m).toArray⟩] 9)).lt) (le_ _) (by omega)⟩)
   obtain⟨y3,c8,rfl⟩:=η a3;clear a3 a1 a9 U a7;go_wp2;go_roundw
   case rel=>exact⟨k+1,by omega,by go_num,HN⟩
   case measure=>first | (simp[intOf];done) | (simp[intOf];omega)
  ·obtain rfl:k=ms.length:=by omega
   by_cases h0:ms=[]
   ·(have b5:ms.length<=0:=by simp[h0]);(have HR:=H_ (show zcr ms=zgq by rw[h0];rfl);have g9:((ms.length:Int)==0)=true:=by simp[h0]);clear h0;go_wp2;go_ret;exact⟨by rw[HR.o];rfl,HB.o.trans (I.o.2.mono (by omega))⟩
   ·(have b5:0<ms.length:=by cases ms with | nil=>exact absurd rfl h0 | cons=>simp);(have HR:=H_ (zva ms h0);have g9:((ms.length:Int)==0)=false:=by simp[h0]);(have b3:=H_ (show ms.map Β≠[] from λh=>h0 (List.map_eq_nil_iff.1 h)))
    have b4:=H_ (show SlT w0 wr wr (.slice qa ms qc) (ms.map Β) from by
     (have h:=I.o.1.sl;rw[Y_]at h);show Sl 1 _ _ _ _ (ms.map Β).length _
     rw[X_];exact h)
    clear h0;go_wp2_with fail
    refine(zt5 _ _ _ _ _ (ms.map Β) wr b4.o b3.o (by rw[X_];omega) (λx hx=>by
     obtain⟨m,_,rfl⟩:=aa_.1 hx;have:=ziq m;omega)).mono ?_
    rintro e2 w2 ⟨rfl,hb2⟩;have E:=H_ (HB.o.trans ((I.o.2.trans (hb2.mono b2)).mono (by omega)));clear hb2;go_wp2;go_ret;exact⟨by rw[HR.o];rfl,E.o⟩
theorem zrk(D:Dsk):zae D [110,111,119]=zbr D.now:=by unfold zae;rw[x_ rfl]
theorem zon(D:Dsk):zae D [102,105,114,115,116]=zbr D.first:=by unfold zae;rw[m_ (by decide),x_ rfl]
theorem zn6(D:Dsk):zae D [103,111,97,108]=zbr D.goal:=by unfold zae;rw[m_ (by decide),m_ (by decide),x_ rfl]
theorem zsn(D:Dsk):zae D [109,111,118,101,115]=Ε D.made.length:=by unfold zae;rw[m_ (by decide),m_ (by decide),m_ (by decide),x_ rfl]
theorem znc(D:Dsk):zae D [100,111,110,101]=if eqL D.now D.goal then zdp else noT:=by unfold zae;rw[m_ (by decide),m_ (by decide),m_ (by decide),m_ (by decide),x_ rfl]
theorem zqn(D:Dsk):zae D [101,113,117,97,108]=eqT (equalV D.now D.goal):=by unfold zae;rw[m_ (by decide),m_ (by decide),m_ (by decide),m_ (by decide),m_ (by decide),x_ rfl]
theorem zqy(D:Dsk):zae D [101,110,100,115]=Υ (endsK (Τ D.now)):=by unfold zae;rw[m_ (by decide),m_ (by decide),m_ (by decide),m_ (by decide),m_ (by decide),m_ (by decide),x_ rfl]
theorem znj(D:Dsk):zae D [116,114,97,99,101]=zhf (differV D.now D.goal):=by unfold zae;rw[m_ (by decide),m_ (by decide),m_ (by decide),m_ (by decide),m_ (by decide),m_ (by decide),m_ (by decide),x_ rfl]
theorem zqi(D:Dsk):zae D [112,114,111,111,102]=zcr D.made:=by unfold zae;rw[m_ (by decide),m_ (by decide),m_ (by decide),m_ (by decide),m_ (by decide),m_ (by decide),m_ (by decide),m_ (by decide),x_ rfl]
theorem zt4(lo hi:Nat)(a b c d:Value)(D:Dsk)(l:List UInt8)(w:World)(hE:zax w)(hx:Θ lo hi w a b c d D)(E:hi<=w)(hm:D.size<=1048576)(hv:φ D=true):
  c_ 49 #[ο a b c d,.string ⟨l.toArray⟩] w (.string ⟨(zae D l).toArray⟩):=by
 rcases zot l with rfl|rfl|rfl|rfl|rfl|rfl|rfl|rfl|rfl|hq
 ·rw[zrk];exact z0k lo hi a b c d D w hE hx E hm hv
 ·rw[zon];exact zyn lo hi a b c d D w hE hx E hm hv
 ·rw[zn6];exact ztm lo hi a b c d D w hE hx E hm hv
 ·rw[zsn];exact zvn lo hi a b c d D w hE hx E hm hv
 ·rw[znc];exact zyf lo hi a b c d D w hE hx E hm hv
 ·rw[zqn];exact zx9 lo hi a b c d D w hx E hm
 ·rw[zqy];exact zye lo hi a b c d D w hE hx E hm hv
 ·rw[znj];exact ztu lo hi a b c d D w hE hx E hm hv
 ·rw[zqi];exact zvt lo hi a b c d D w hx E hv
 ·rw[zqv hq];exact zwu a b c d l hq w
theorem z1h(lo hi:Nat)(a b c d:Value)(D:Dsk)(l:List UInt8)(s:ByteArray)(hs:s=⟨l.toArray⟩)(w:World)(hE:zax w)(hN:Env w)(hx:Θ lo hi w a b c d D)(hh:hi<=w)(hm:D.size<=1048576)(hv:φ D=true)(hl:l.length<=2097152)(hr:zbb l=none):
  Calls prog 20 #[ο a b c d,.string s] w (zfl λa' b' c' d' s' w'=>s'=⟨(zae D l).toArray⟩/\Κ w w' w' a' b' c' d' D/\Below w w w'):=by
 subst hs;have HM:=H_ hm;have⟨w0,U⟩:=ex_ ((w.alloc (.cells #[a,b,c,d] 31)).alloc (.cells #[(),(),(),()] 31));have Z:Below w w w0:=by rw[U];exact((B_ _ _).alloc (le_ _) _).alloc (by simp) _
 have b9:w0=w.heap.size+2:=by rw[U];simp
 have E:Q_ (Blk w (.cells #[a,b,c,d] 31) w0):=by
  rw[U];exact H_ ((κ w _).below ((B_ (w.alloc _).heap.size _).alloc (le_ _) _) (by simp))
 have K3:Q_ (Blk (w+1) (.cells #[(),(),(),()] 31) w0):=by
  have h:=κ (w.alloc (.cells #[a,b,c,d] 31)) (.cells #[(),(),(),()] 31);rw[μ]at h;rw[U];exact H_ h
 have HX:=H_ (hx.below Z hh);have HB:=H_ Z;have HE:=H_ (hE.below Z);have HN:=H_ (hN.below Z);have b2:=H_ U;have HV:=H_ hv;have b1:=H_ hr;clear hx hE hN Z U hv hr hm;have⟨d0,d1,d2,d3⟩:=E.o.c4
 go_enter func20,ntmps20
 go_wp2_with (rw[<-b2.o])
 refine(zhl _ _ a b c d D w0 HE.o HX.o (by omega) HM.o).mono ?_;rintro e1 w1 ⟨rfl,I⟩;rw[HV.o];have hs1:=I.size;replace HB:=HB.tr I (by omega);replace E:=E.kb I;replace K3:=K3.kb I;replace HX:=H_ (HX.o.below I (by omega));replace HE:=H_ (HE.o.below I);replace HN:=H_ (HN.o.below I);clear I d0 d1 d2 d3;go_wp2_with fail
 refine(zrv l _ rfl w1 HN.o hl).mono ?_;rintro e2 w2 ⟨rfl,hb2⟩;rw[b1.o,zhd];have hs2:=hb2.size;replace HB:=HB.tr hb2 (by omega);replace E:=E.kb hb2;replace K3:=K3.kb hb2;replace HX:=H_ (HX.o.below hb2 (by omega));replace HE:=H_ (HE.o.below hb2);clear hb2 HN;have⟨w3,a6⟩:=xa_ w2 #[(0:Int),(0:Int),.bool false,(0:Int),(0:Int)] 69;obtain⟨K,b4,c6⟩:=Η a6;replace HB:=HB.tr K (by omega);replace E:=E.kb K;replace K3:=K3.kb K;replace HX:=H_ (HX.o.below K (by omega));replace HE:=H_ (HE.o.below K);have a3:∀ w',Below w3 w3 w'->w'.cell? (p_ w 0)=some a/\w'.cell? (p_ w 1)=some b/\w'.cell? (p_ w 2)=some c/\w'.cell? (p_ w 3)=some d:=λw' hb=>⟨(E.o.below hb E.o.lt).cell 0,(E.o.below hb E.o.lt).cell 1,(E.o.below hb E.o.lt).cell 2,(E.o.below hb E.o.lt).cell 3⟩
 have a2:Below w3 w3 w3.drew:=z_ (B_ _ _);have hS:=a3 w3 (B_ _ _);have b7:=a3 _ a2;have a7:=H_ a3;have b8:w3.drew.heap.size=w3.heap.size:=rfl;have b3:=H_ (HX.o.below a2 (by omega));clear K b4 a3;go_upto_region 5 with fail
 simp only[<-a6];clear a6
 go_region_held3 (λw'=>w'.cell? (p_ w 0)=some a/\w'.cell? (p_ w 1)=some b/\w'.cell? (p_ w 2)=some c/\w'.cell? (p_ w 3)=some d) (first | with_reducible assumption | go_keep) (first
  | (go_at_call 37;refine(ziz _ _ a b c d D w3.drew b3.o (by omega) HM.o).mono ?_;rintro e5 w5 ⟨y0,y1,y2,y3,rfl,o_,J⟩;obtain⟨z0,z1,z2,z3,z4,z5,z6,z7,i0,i1,i2,i3⟩:=o_.open;subst i0 i1 i2 i3;(have c7:=J.size);(have a5:=a2.trans (J.mono (by omega)));(have b5:=a7.o _ a5);(have a4:=H_ a5);(have O5:=H_ o_);clear J a5 o_)
  | (go_at_call 49;refine(zt4 _ _ a b c d D l w5 (HE.o.below a4.o) (HX.o.below a4.o (by omega)) (by omega) HM.o HV.o).mono ?_;rintro e6 w6 ⟨rfl,J⟩;(have c8:=J.size);(have a1:=a4.o.trans (J.mono (by omega)));(have b6:=a7.o _ a1);(have k3:=K3.o.below a1 K3.o.lt);(obtain⟨c0,c1,c2,c3⟩:=k3.c4);(obtain⟨f0,f1,f2,f3⟩:=k3.f4);(have KM:=H_ k3);(have a8:=β.set4 (w+1) w6 (.slice z0 D.first z1) (.slice z2 D.goal z3) (.slice z4 D.made z5) (.slice z6 D.now z7));(have a9:=(E.o.below a1 E.o.lt).outside a8 (.inl (by omega)));(obtain⟨j0,j1,j2,j3⟩:=a9.c4);(have O6:=H_ (O5.o.below J (by omega)));(have b0:=H_ a1);clear J a1 k3 a8 a9))
 have⟨wz,hwz⟩:=x4_ w6 (w+1) (.slice z0 D.first z1) (.slice z2 D.goal z3) (.slice z4 D.made z5) (.slice z6 D.now z7);have KZ:=KM.o.set4 (.slice z0 D.first z1) (.slice z2 D.goal z3) (.slice z4 D.made z5) (.slice z6 D.now z7);have hO:=β.set4 (w+1) w6 (.slice z0 D.first z1) (.slice z2 D.goal z3) (.slice z4 D.made z5) (.slice z6 D.now z7);rw[<-hwz]at KZ hO;have c9:=hO.size;have HZ:=H_ (ε (HB.o.trans (b0.o.mono (by omega))) hO (by omega) (by omega));have OZ:=H_ (O6.o.outside hO (.inr (by omega)));obtain⟨q0,q1,q2,q3⟩:=KZ.c4;clear KZ hO hS b7 b5 b6 a2 c0 c1 c2 c3 f0 f1 f2 f3 j0 j1 j2 j3;simp only[<-hwz];clear hwz;go_wp2;refine d_ (v:=.tuple #[ο (.slice z0 D.first z1) (.slice z2 D.goal z3) (.slice z4 D.made z5) (.slice z6 D.now z7),.string ⟨(zae D l).toArray⟩]) (by simp[results,results20,go_sem,q0,q1,q2,q3]) rfl ⟨_,_,_,_,_,rfl,rfl,?_,HZ.o⟩;exact OZ.o.wide (by omega) (by omega)
theorem zxb(lo hi:Nat)(a b c d:Value)(D:Dsk)(s:ByteArray)(w:World)(hE:zax w)(hx:Θ lo hi w a b c d D)(hh:hi<=w)(hm:D.size<=1048576)(hv:φ D=false):
  Calls prog 20 #[ο a b c d,.string s] w (zfl λa' b' c' d' s' w'=>s'=⟨#[]⟩/\Κ w w' w' a' b' c' d' Dsk.none/\Below w w w'):=by
 have HM:=H_ hm;have⟨w0,E⟩:=ex_ ((w.alloc (.cells #[a,b,c,d] 31)).alloc (.cells #[(),(),(),()] 31));have I:Below w w w0:=by rw[E];exact((B_ _ _).alloc (le_ _) _).alloc (by simp) _
 have a1:w0=w.heap.size+2:=by rw[E];simp
 have K1:Q_ (Blk w (.cells #[a,b,c,d] 31) w0):=by
  rw[E];exact H_ ((κ w _).below ((B_ (w.alloc _).heap.size _).alloc (le_ _) _) (by simp))
 have K:Q_ (Blk (w+1) (.cells #[(),(),(),()] 31) w0):=by
  have h:=κ (w.alloc (.cells #[a,b,c,d] 31)) (.cells #[(),(),(),()] 31);rw[μ]at h;rw[E];exact H_ h
 have HX:=H_ (hx.below I hh);have HB:=H_ I;have HE:=H_ (hE.below I);have U:=H_ E;have HV:=H_ hv;clear hx hE I E hv hm;have⟨d0,d1,d2,d3⟩:=K1.o.c4
 go_enter func20,ntmps20
 go_wp2_with (rw[<-U.o])
 refine(zhl _ _ a b c d D w0 HE.o HX.o (by omega) HM.o).mono ?_;rintro e1 w1 ⟨rfl,J⟩;rw[HV.o];have hs1:=J.size;replace HB:=HB.tr J (by omega);replace K:=K.kb J;clear J d0 d1 d2 d3;have⟨c0,c1,c2,c3⟩:=K.o.c4;have⟨f0,f1,f2,f3⟩:=K.o.f4;have⟨wz,hwz⟩:=x4_ w1 (w+1) () () () ();have Z:=K.o.set4 () () () ();have hO:=β.set4 (w+1) w1 () () () ();rw[<-hwz]at Z hO;have HZ:=H_ (ε HB.o hO (by omega) (by omega));obtain⟨q0,q1,q2,q3⟩:=Z.c4;clear Z hO;go_wp2;simp only[<-hwz];clear hwz;refine d_ (v:=.tuple #[ο () () () (),.string ⟨#[]⟩]) (by simp[results,results20,go_sem,q0,q1,q2,q3]) rfl ⟨_,_,_,_,_,rfl,rfl,?_,HZ.o⟩;exact Κ.nils _ _ HZ.o.size wz
theorem zr4(b:Bool):okS b=⟨(okT b).toArray⟩:=by cases b<;>rfl
theorem zgr(lo hi:Nat)(a b c d:Value)(D:Dsk)(l:List UInt8)(s:ByteArray)(hs:s=⟨l.toArray⟩)(w:World)(hE:zax w)(I:Env w)(hx:Θ lo hi w a b c d D)(E:hi<=w)(hm:D.size<=1048576)(hl:l.length<=2097152):
  Calls prog 20 #[ο a b c d,.string s] w (zfl λa' b' c' d' s' w'=>s'=⟨(zac D l).2.toArray⟩/\Κ w w' w' a' b' c' d' (zac D l).1/\Below w w w'):=by
 cases hv:φ D with
 | false=>
  rw[show zac D l=(Dsk.none,[]) by unfold zac;rw[hv];rfl];exact zxb lo hi a b c d D s w hE hx E hm hv
 | true=>
  cases hr:zbb l with
  | none=>
   rw[show zac D l=(D,zae D l) by unfold zac zfv;rw[hv,hr];rfl];exact z1h lo hi a b c d D l s hs w hE I hx E hm hv hl hr
  | some A=>
   rw[show zac D l=((Χ D A).1,okT (Χ D A).2) by unfold zac zfv;rw[hv,hr];rfl];have h:=zxn lo hi a b c d D A l s hs w hE I hx E hm hv hl hr;rw[zr4]at h;exact h
theorem Κ.le {lo hi:Nat} {a b c d:Value} {D:Dsk}(h:Κ lo hi w a b c d D):lo<=hi:=by
 obtain⟨l1,h1,l2,h2,l3,h3,l4,h4,E,I,J,K,U,_⟩:=h;omega
def RetDV(P:Value->Value->Value->Value->Value->World->Prop)(e:Ending)(w':World):Prop:=∃ a b c d v,e=.returned (.tuple #[ο a b c d,v])/\P a b c d v w'
abbrev SayR(w:World)(r:Dsk × List (List UInt8)):Ending->World->Prop:=RetDV λa b c d v w'=>∃ ld hd la ha,Κ ld hd w' a b c d r.1/\Ρ la ha 9 w' v r.2/\w.heap.size<=ld/\hd<=w'.heap.size/\w.heap.size<=la/\ha<=w'.heap.size/\(ha<=ld\/hd<=la)/\ld<=hd/\la<=ha/\Below w w w'
theorem zcg(lo hi lo' hi':Nat)(a b c d v:Value)(D:Dsk)(l:List (List UInt8))(w:World)(hE:zax w)(hN:Env w)(hx:Θ lo hi w a b c d D)(hh:hi<=w)(hm:D.size<=1048576)(hl:SlT lo' hi' w v l)(g2:hi'<=w)(d7:∀ x∈l,x.length<=2097152)(j7:l.length<=1048576):
  Calls prog 12 #[ο a b c d,v] w (SayR w (zbe D l)):=by
 have HM:=H_ hm;have e9:=H_ d7;unfold Dsk.size at hm;obtain⟨va,vc,rfl,i0,e7⟩:=zi4 hl;unfold maxLen at e7;have⟨w0,a6⟩:=ex_ ((w.alloc (.cells #[a,b,c,d] 31)).alloc (.cells #[(),(),(),()] 31));have b2:Below w w w0:=by rw[a6];exact((B_ _ _).alloc (le_ _) _).alloc (by simp) _
 have k4:w0=w.heap.size+2:=by rw[a6];simp
 have K1:Q_ (Blk w (.cells #[a,b,c,d] 31) w0):=by
  rw[a6];exact H_ ((κ w _).below ((B_ (w.alloc _).heap.size _).alloc (le_ _) _) (by simp))
 have I:Q_ (Blk (w+1) (.cells #[(),(),(),()] 31) w0):=by
  have h:=κ (w.alloc (.cells #[a,b,c,d] 31)) (.cells #[(),(),(),()] 31);rw[μ]at h;rw[a6];exact H_ h
 have HX:=H_ (hx.below b2 hh);have U:=H_ (zaq hl b2 g2);have HB:=H_ b2;have HE:=H_ hE;have HN:=H_ hN;have f7:=H_ a6;clear hx hl b2 a6 d7 hE hN;have⟨dv,d5⟩:=ex_ (φ D);have b4:=H_ d5;clear d5;have⟨d0,d1,d2,d3⟩:=K1.o.c4
 go_enter func12,ntmps12
 go_wp2_with (rw[<-f7.o])
 refine(zhl _ _ a b c d D w0 (HE.o.below HB.o) HX.o (by omega) HM.o).mono ?_;rintro e1 w1 ⟨rfl,Z⟩;rw[<-b4.o];have hs1:=Z.size;replace HB:=HB.tr Z (by omega);replace K1:=K1.kb Z;replace I:=I.kb Z;replace HX:=H_ (HX.o.below Z (by omega));replace U:=H_ (zaq U.o Z (by omega));clear Z d0 d1 d2 d3;have⟨d0,d1,d2,d3⟩:=K1.o.c4;by_cases hc:dv=true/\l.length<=40
 ·obtain⟨rfl,d4⟩:=hc
  have h8:¬(40:Int)<(l.length:Int):=by omega
  have HV:=H_ (b4.o.symm:φ D=true);have HR:=H_ (show zbe D l=zad D l by rw[zbe,x_ ⟨HV.o,d4⟩]);go_wp2_with fail
  refine(ziz _ _ a b c d D w1 HX.o (by omega) HM.o).mono ?_;rintro e2 w2 ⟨z0,z1,z2,z3,rfl,b6,hb2⟩;have hs2:=hb2.size;replace HB:=HB.tr hb2 (by omega);replace I:=H_ (I.o.below hb2 (by omega));replace U:=H_ (zaq U.o hb2 (by omega));obtain⟨x0,y0,x1,y1,x2,y2,x3,y3,e0,e1,e2,e3⟩:=b6.open;subst e0 e1 e2 e3;have b1:=H_ b6;clear hb2 b6 d0 d1 d2 d3;have⟨wo,a9⟩:=xa_ w2 #[.slice x0 D.first y0,.slice x1 D.goal y1,.slice x2 D.made y2,.slice x3 D.now y3] 31;have KO:Q_ (Blk w2 (.cells #[.slice x0 D.first y0,.slice x1 D.goal y1,.slice x2 D.made y2,.slice x3 D.now y3] 31) wo):=by rw[a9];exact H_ (κ w2 _)
  have a7:Below w2 w2 wo:=by rw[a9];exact(B_ _ _).alloc (le_ _) _
  have k6:wo=w2.heap.size+1:=by rw[a9];simp
  have f9:=H_ a9;replace HB:=HB.tr a7 (by omega);replace I:=H_ (I.o.below a7 (by omega));replace U:=H_ (zaq U.o a7 (by omega));replace b1:=H_ (b1.o.below a7 (le_ _));clear a9 a7;have i7:w+2<=w2.heap.size:=by omega
  go_wp2_with (rw[<-f9.o])
  go_loopw [7,25] (λn i wr=>∃ (k:Nat) (D':Dsk) (ts:List (List UInt8)) (a' b' c' d':Value) (l2 h2 la ha:Nat),k<=l.length/\i=.int .i64 k/\ts.length=k/\Q_ ((D',ts)=zad D (l.take k)/\Κ l2 h2 wr a' b' c' d' D'/\w.heap.size+2<=l2/\h2<=wr/\Blk w2 (.cells #[a',b',c',d'] 31) wr/\Blk (w+1) (.cells #[(),(),(),()] 31) wr/\Below w w wr/\wo<=wr.heap.size/\SlT lo' hi' wr (.slice va l vc) l/\Ρ la ha 9 wr n ts/\wo.heap.size<=la/\la<=ha/\ha<=wr/\(ha<=l2\/h2<=la)/\(ha<=w2.heap.size\/w2.heap.size<la))) (λ_ i _=>l.length-(intOf i).toNat)
  case atStart=>
   exact⟨0,D,[],_,_,_,_,_,_,_,_,by omega,rfl,rfl,H_ ⟨rfl,b1.o,by omega,by omega,KO.o,I.o,HB.o,le_ _,U.o,Ω _ _ _ _ _,le_ _,le_ _,le_ _,by omega,by omega⟩⟩
  case round=>
   rename World=>wr
   clear KO I HB U b1 ;obtain⟨k,D',ts,a',b',c',d',l2,h2,la,ha,hk,rfl,e6,K⟩:=hrel;have HP:=H_ K.o.1;have HO:=H_ K.o.2.1;have j0:=K.o.2.2.1;have i8:=K.o.2.2.2.1;have KO:=H_ K.o.2.2.2.2.1;have I:=H_ K.o.2.2.2.2.2.1;have HB:=H_ K.o.2.2.2.2.2.2.1;have k7:=K.o.2.2.2.2.2.2.2.1;have U:=H_ K.o.2.2.2.2.2.2.2.2.1;have HA:=H_ K.o.2.2.2.2.2.2.2.2.2.1;have j6:=K.o.2.2.2.2.2.2.2.2.2.2.1;have g3:=K.o.2.2.2.2.2.2.2.2.2.2.2.1;have i9:=K.o.2.2.2.2.2.2.2.2.2.2.2.2.1;have i5:=K.o.2.2.2.2.2.2.2.2.2.2.2.2.2.1;have i6:=K.o.2.2.2.2.2.2.2.2.2.2.2.2.2.2;clear K;have f5:=H_ e6;have k8:ts.length<=40:=by omega
   clear e6;have e5:=HB.o.size;obtain⟨n0,n1,n2,n3,n4,n5,n6,n7,e0,e1,e2,e3⟩:=HO.o.open;subst e0 e1 e2 e3;obtain⟨ta,tc,g4⟩:=η HA.o;subst g4;have f6:=H_ (show φ D'=true by have h:=zid HV.o (l.take k);rw[<-HP.o] at h;exact h);have j9:=zkl f6.o;by_cases hlt:k<l.length
   ·(obtain⟨bb,off,rfl,_,i3,i4,g0⟩:=zf5 U.o k hlt);(have b7:=e9.o _ (u_ hlt);have⟨ln,b8⟩:=ex_ (l[k]);rw[<-b8]at g0 b7;have c7:=H_ (show zck (D',ts) ln=zad D (l.take (k+1)) by rw[b8,zq6 D l k hlt,<-HP.o]);clear b8;have⟨o0,o1,o2,o3⟩:=KO.o.c4;have j8:=KO.o.lt;go_wp2_with fail);refine(zgr _ _ _ _ _ _ D' ln _ rfl wr (HE.o.below HB.o) (HN.o.below HB.o) HO.o.at (by omega) (by omega) b7).mono ?_;rintro e3 w3 ⟨u0,u1,u2,u3,s3,rfl,d9,b3,a1⟩;have k9:=a1.size;replace HB:=HB.tr a1 (by omega);replace KO:=H_ (KO.o.below a1 (by omega));replace I:=H_ (I.o.below a1 (by omega));replace U:=H_ (zaq U.o a1 (by omega));replace HA:=H_ (Ρ.below HA.o a1 (by omega));have⟨X,hX⟩:=ex_ ((zac D' ln).1);have⟨t,ht⟩:=ex_ ((zac D' ln).2);rw[<-hX]at b3;rw[<-ht]at d9;subst d9;have c8:=H_ (show (X,ts++[t])=zad D (l.take (k+1)) by rw[<-c7.o,zck,hX,ht]);obtain⟨z0,z1,z2,z3,z4,z5,z6,z7,f0,f1,f2,f3⟩:=b3.open;subst f0 f1 f2 f3;have b5:=H_ b3;clear a1 b3 hX ht o0 o1 o2 o3 g0 HO c7 b7;have⟨wn,a8⟩:=xa_ w3 #[.slice z0 X.first z1,.slice z2 X.goal z3,.slice z4 X.made z5,.slice z6 X.now z7] 31;have a2:Below w3 w3 wn:=by rw[a8];exact(B_ _ _).alloc (le_ _) _
    (have k5:wn=w3.heap.size+1:=by rw[a8];simp);(have KN:Q_ (Blk w3 (.cells #[.slice z0 X.first z1,.slice z2 X.goal z3,.slice z4 X.made z5,.slice z6 X.now z7] 31) wn):=by rw[a8];exact H_ (κ w3 _));(have f8:=H_ a8;replace HB:=HB.tr a2 (by omega);replace KO:=H_ (KO.o.below a2 (by omega));replace I:=H_ (I.o.below a2 (by omega));replace U:=H_ (zaq U.o a2 (by omega));replace HA:=H_ (Ρ.below HA.o a2 (by omega));replace b5:=H_ (b5.o.below a2 (by omega));clear a2 a8;have⟨g6,g7,g8,g9⟩:=KN.o.c4;have⟨f0,f1,f2,f3⟩:=KO.o.f4;have⟨c0,c1,c2,c3⟩:=KO.o.c4;have⟨wz,hwz⟩:=x4_ wn w2 (.slice z0 X.first z1) (.slice z2 X.goal z3) (.slice z4 X.made z5) (.slice z6 X.now z7);have KZ:=KO.o.set4 (.slice z0 X.first z1) (.slice z2 X.goal z3) (.slice z4 X.made z5) (.slice z6 X.now z7);have J:=β.set4 (w2.heap.size) wn (.slice z0 X.first z1) (.slice z2 X.goal z3) (.slice z4 X.made z5) (.slice z6 X.now z7);rw[<-hwz]at KZ J;have h9:=J.size;have HZ:=H_ (ε HB.o J (by omega) (by omega));have b0:=H_ KZ;have b9:=H_ (Ρ.outside HA.o J (by omega));have c6:=H_ (ze3 U.o J (.inl (by omega)));have c9:=H_ (I.o.outside J (.inl (by omega)));have a5:=H_ (b5.o.outside J (.inr (by omega)));clear KZ J;go_upto_region 10 with(rw[<-f8.o]));simp only[<-hwz];clear hwz g6 g7 g8 g9 f0 f1 f2 f3 c0 c1 c2 c3;go_wp2_with (at_builtin;refine zhw wz rfl _ _ 26 rfl 9 (.string ⟨#[]⟩) 1 16 underlying26 zce rfl (by decide) (by decide) rfl b9.o 1 [.string ⟨t.toArray⟩] rfl rfl (by intro u hu;simp only[k_] at hu;subst hu;rfl) rfl (by omega) (by omega) ?_)
    intro v9 w9 e8 d6 a3 d8 E;have e4:=E.size;obtain⟨y9,h7,g5⟩:=η a3;subst g5;have a4:=H_ (show Κ wr w3 w9 (.slice z0 X.first z1) (.slice z2 X.goal z3) (.slice z4 X.made z5) (.slice z6 X.now z7) X/\Blk w2 (.cells #[.slice z0 X.first z1,.slice z2 X.goal z3,.slice z4 X.made z5,.slice z6 X.now z7] 31) w9/\Blk (w+1) (.cells #[(),(),(),()] 31) w9/\Below w w w9/\SlT lo' hi' w9 (.slice (q_ bb off) l vc) l/\Ρ e8 d6 9 w9 (.slice y9 (ts.length+1) h7) (ts++[t]) from ⟨a5.o.outside E (by omega),b0.o.outside E (by omega),c9.o.outside E (by omega),ε HZ.o E (by omega) (by omega),ze3 c6.o E (.inl (by omega)),by have h_:=a3;show Own 1 _ _ _ _ _ (ts++[t]).length _;rw[n_,zek];exact h_⟩);have i2:wz<=w9.heap.size:=e4;clear a3 E a5 b0 c9 HZ c6 b9;go_wp2;go_roundw
    case rel=>
     exact⟨k+1,X,ts++[t],_,_,_,_,_,_,e8,d6,by omega,by go_num,by rw[n_,f5.o];rfl,H_ ⟨c8.o,a4.o.1,by omega,by omega,a4.o.2.1,a4.o.2.2.1,a4.o.2.2.2.1,by omega,a4.o.2.2.2.2.1,a4.o.2.2.2.2.2,by omega,by omega,by omega,by omega,by omega⟩⟩
    case measure=>simp[intOf];omega
   ·(obtain rfl:k=l.length:=by omega);have HD:=H_ (show zbe D l=(D',ts) by rw[HR.o,HP.o,ay_ (le_ _)]);have⟨o0,o1,o2,o3⟩:=KO.o.c4;clear hlt;have⟨f0,f1,f2,f3⟩:=I.o.f4;have⟨c0,c1,c2,c3⟩:=I.o.c4;have⟨wz,hwz⟩:=x4_ wr (w+1) (.slice n0 D'.first n1) (.slice n2 D'.goal n3) (.slice n4 D'.made n5) (.slice n6 D'.now n7);have KZ:=I.o.set4 (.slice n0 D'.first n1) (.slice n2 D'.goal n3) (.slice n4 D'.made n5) (.slice n6 D'.now n7);have J:=β.set4 (w+1) wr (.slice n0 D'.first n1) (.slice n2 D'.goal n3) (.slice n4 D'.made n5) (.slice n6 D'.now n7);rw[<-hwz]at KZ J;have e5:=J.size;have HZ:=H_ (ε HB.o J (by omega) (by omega));have a5:=H_ J;obtain⟨q0,q1,q2,q3⟩:=KZ.c4;have b0:=H_ KZ;clear KZ J;go_wp2;simp only[<-hwz];clear hwz;refine d_ (v:=.tuple #[ο (.slice n0 D'.first n1) (.slice n2 D'.goal n3) (.slice n4 D'.made n5) (.slice n6 D'.now n7),.slice ta ts tc]) (by simp[results,results12,go_sem,q0,q1,q2,q3]) rfl ⟨_,_,_,_,_,rfl,?_⟩;rw[HD.o];exact⟨l2,h2,la,ha,HO.o.outside a5.o (.inr (by omega)),Ρ.outside HA.o a5.o (by omega),by omega,by omega,by omega,by omega,by omega,HO.o.le,g3,HZ.o⟩
 ·have HD:=H_ (show zbe D l=(Dsk.none,[]) by rw[zbe,m_ (by rw[<-b4.o];exact hc)])
  have hcs:dv=false\/dv=true/\(40:Int)<(l.length:Int):=by
   cases dv
   ·exact .inl rfl
   ·exact .inr ⟨rfl,by simp at hc;omega⟩
  clear hc;rcases hcs with rfl|⟨rfl,d4⟩
  all_goals (
   have⟨f0,f1,f2,f3⟩:=I.o.f4;have⟨c0,c1,c2,c3⟩:=I.o.c4;have⟨wz,hwz⟩:=x4_ w1 (w+1) () () () ();have KZ:=I.o.set4 () () () ();have J:=β.set4 (w+1) w1 () () () ();rw[<-hwz]at KZ J;have e5:=J.size;have HZ:=H_ (ε HB.o J (by omega) (by omega));have a5:=H_ J;obtain⟨q0,q1,q2,q3⟩:=KZ.c4;have b0:=H_ KZ;clear KZ J;go_wp2;simp only[<-hwz];clear hwz;refine d_ (v:=.tuple #[ο () () () (),()]) (by simp[results,results12,go_sem,q0,q1,q2,q3]) rfl ⟨_,_,_,_,_,rfl,?_⟩;rw[HD.o];exact⟨_,_,_,_,Κ.nils w w (le_ _) _,Ω 1 w w _ _,le_ _,HZ.o.size,le_ _,HZ.o.size,by omega,le_ _,le_ _,HZ.o⟩
)
theorem zpz(h1:k<=xs.length)(h2:k<=ys.length)(h:∀ j (_:j<k) (h2:j<xs.length) (h3:j<ys.length),xs[j]=ys[j]):ltL xs ys=ltL (xs.drop k) (ys.drop k):=by
 have e:xs.take k=ys.take k:=by
  refine bd_ (by simp;omega) λi a b=>?_
  simp only[b1_];simp at a b;exact h i (by omega) (by omega) (by omega)
 conv=>lhs;rw[<-List.take_append_drop k xs,<-List.take_append_drop k ys,e]
 exact ltL_pre _ _ _
theorem zu2(h1:k<xs.length)(h2:k<ys.length)(h:∀ j (_:j<k) (h2:j<xs.length) (h3:j<ys.length),xs[j]=ys[j])(hne:xs[k]≠ys[k]):ltL xs ys=decide (xs[k]<ys[k]):=by
 rw[zpz (by omega) (by omega) h,y_ h1,y_ h2,ltL];by_cases hl:xs[k]<ys[k]
 ·simp[hl]
 ·have:ys[k]<xs[k]:=by omega
  simp[hl,this]
theorem zpe(h1:k<=xs.length)(h2:k<=ys.length)(hk:k=xs.length\/k=ys.length)(h:∀ j (_:j<k) (h2:j<xs.length) (h3:j<ys.length),xs[j]=ys[j]):ltL xs ys=decide (xs.length<ys.length):=by
 rw[zpz h1 h2 h];have l1:(xs.drop k).length=xs.length-k:=af_;have l2:(ys.drop k).length=ys.length-k:=af_;cases hx:xs.drop k<;>cases hy:ys.drop k<;>rw[hx] at l1<;>rw[hy] at l2<;>simp only[an_,I_] at l1 l2<;>simp only[ltL]
 ·symm;simp;omega
 ·symm;simp;omega
 ·symm;simp;omega
 ·omega
theorem zn7(lo hi lo' hi':Nat)(v v':Value)(xs ys:List Int)(w:World)(hx:SlI lo hi w v xs)(hy:SlI lo' hi' w v' ys)(hm:xs.length<=16777216)(b0:ys.length<=16777216):
  c_ 113 #[v,v'] w (.bool (ltL xs ys)):=by
 obtain⟨a,cap,rfl,U,a1,hc⟩:=hx.open;obtain⟨a',a4,rfl,J,Z,K⟩:=hy.open;clear hx a1 hy Z U J
 go_enter func113,ntmps113
 go_wp2;go_loopw [5] (λi wr=>∃ k m:Nat,k<=xs.length/\k<=ys.length/\i=.int .i64 k/\Q_ (∀ j (_:j<k) (h2:j<xs.length) (h3:j<ys.length),xs[j]=ys[j])/\wr=w.drewN m) (λi _=>xs.length-(intOf i).toNat)
 case atStart=>exact⟨0,0,by omega,by omega,rfl,H_ (by intro j h;omega),rfl⟩
 case round=>
  obtain⟨k,m,hk,a3,rfl,HJ,rfl⟩:=hrel;by_cases hlt:k<xs.length
  ·by_cases E:k<ys.length
   ·(obtain⟨b,off,rfl,_,_,a8,a9⟩:=hc k hlt);obtain⟨b',a7,rfl,_,_,a5,a6⟩:=K k E;clear hc K;by_cases he:xs[k]=ys[k]
    ·(have I:=H_ he);(have a2:(xs[k] !=ys[k])=false:=by simp[he]);clear he;go_wp2
     go_quiet (fail)
     go_wp2;go_roundw
     case rel=>
      refine⟨k+1,m+nq,by omega,by omega,by go_num,H_ ?_,by first | rfl | rw[cq_]⟩;intro j h1 h2 h3;rcases bi_ j k with h|h
      ·exact HJ.o j h h2 h3
      ·(obtain rfl:j=k:=by omega);exact I.o
     case measure=>simp[intOf];omega
    ·(have I:=H_ (zu2 hlt E HJ.o he));(have a2:(xs[k] !=ys[k])=true:=by simp[he]);clear he;go_wp2
     go_quiet (fail)
     go_wp2
     go_quiet (fail)
     go_wp2;go_ret;exact⟨χ I.o.symm,ai_ (ai_ (ai_ (B_ _ _) _) _) _⟩
   ·(obtain rfl:k=ys.length:=by omega);have I:=H_ (zpe hk (le_ _) (.inr rfl) HJ.o);go_wp2;go_ret;exact⟨χ (by rw[I.o]<;>simp),ai_ (B_ _ _) _⟩
  ·obtain rfl:k=xs.length:=by omega
   have I:=H_ (zpe (le_ _) a3 (.inl rfl) HJ.o);go_wp2;go_ret;exact⟨χ (by rw[I.o]<;>simp),ai_ (B_ _ _) _⟩
end Go.Proofs.YtfnnhimopokpnaaGreatDoor
