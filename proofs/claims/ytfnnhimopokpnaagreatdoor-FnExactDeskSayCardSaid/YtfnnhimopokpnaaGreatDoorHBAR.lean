/- Lemmas for this seat; no condition. -/
import Derived.Test.YtfnnhimopokpnaaGreatDoorHBAP
import Derived.Test.YtfnnhimopokpnaaGreatDoorHBAQ
namespace Go.Proofs.YtfnnhimopokpnaaGreatDoor
open Go.RowKit Proofs.Tryz
set_option maxRecDepth 100000
set_option maxHeartbeats 0
set_option linter.all false
variable {N st d s k:Nat} {w:World} {xs ys:List Int}
def zev(M:Mach)(c:List In3)(N st:Nat)(d a s:Nat):Prop:=1<=d/\d<=N+1/\runS (stepC M c) N (0,st)=(runS (stepC M c) (N+1-d) (a,s)).map λr=>(r.1,r.2+(d-1))
theorem zev.start(M:Mach)(c:List In3)(N st:Nat):zev M c N st 1 0 st:=by
 refine⟨le_ _,by omega,?_⟩;rw[show N+1-1=N by omega];cases runS (stepC M c) N (0,st)<;>rfl
theorem zev.next {M:Mach} {c:List In3} {a:Nat}(h:zev M c N st d a s)(hd:d<=N){p:Nat × Nat}(hp:stepC M c (a,s)=some p):zev M c N st (d+1) p.1 p.2:=by
 obtain⟨h1,h2,h3⟩:=h;refine⟨by omega,by omega,?_⟩;rw[h3,show N+1-d=(N+1-(d+1))+1 by omega,runS_step hp,c8_]
 congr 1
 funext r
 simp only[Function.comp];rw[show d+1-1=d-1+1 by omega];simp only[a8_,true_and];omega
theorem zev.done {M:Mach} {c:List In3} {a:Nat}(h:zev M c N st d a s)(hd:d<=N)(hp:stepC M c (a,s)=none):runS (stepC M c) N (0,st)=some ((a,s),d):=by
 obtain⟨h1,h2,h3⟩:=h;rw[h3,show N+1-d=(N-d)+1 by omega,runS_end hp];simp only[c0_,Z_,a8_,true_and];omega
theorem zev.over {M:Mach} {c:List In3} {a:Nat}(h:zev M c N st d a s)(hd:N<d):runS (stepC M c) N (0,st)=none:=by
 obtain⟨h1,h2,h3⟩:=h;rw[h3,show N+1-d=0 by omega];rfl
theorem zxy(a b:Nat)(ha:a<1048576)(hb:b<1048576):((a:Int)+b-((a &&& b:Nat):Int))=((a ||| b:Nat):Int):=by
 have:=or_add_and 20 a b (by omega);omega
theorem zm0(a b:Nat)(ha:a<1048576)(hb:b<1048576)(w:World):Calls prog 157 #[.int .i64 a,.int .i64 b] w λe w'=>e=.returned ((a ||| b:Nat):Int)/\w=w':=by
 have HO:=H_ (zxy a b ha hb);have HB:=H_ (zq2 a b ha hb w);have hle:a &&& b<=a:=c5_;have⟨c,hc⟩:=ex_ (a &&& b);rw[<-hc]at HB HO hle;clear hc
 go_enter func157,ntmps157
 go_wp2_with fail
 refine HB.o.mono ?_;rintro e _ ⟨rfl,rfl⟩;go_wp2;go_ret;exact⟨zca HO.o,rfl⟩
def EndC(t:KT):Prop:=∀ (lo hi:Nat) (v:Value) (w:World),SlI lo hi w v t.post->t.ok 0=true->t.size<=2000->hi<=w ->
 Calls prog 110 #[v] w λe w'=>e=.returned ((endsK t:Nat):Int)/\Below w w w'
theorem zkm:∀ t:KT,EndC t:=by
 intro t
 induction t with
 | leaf n=>
  intro lo hi v w hx hok hs hh;simp only[KT.ok,d_,m_]at hok;obtain⟨hn0,hn18⟩:=hok;obtain⟨a,cap,rfl,_,_⟩:=τ hx;obtain⟨b,off,rfl,hb1,hb2,hb3,hcell⟩:=hx.get 0 (by simp[KT.post]);have hc1:w.cell? (p_ b off)=some (.int .i64 n):=hcell;have hlen:(KT.leaf n).post.length=1:=rfl;rw[hlen];clear hx hlen hcell;by_cases h15:n<=15
  ·have HE:=H_ (show n=((endsK (.leaf n):Nat):Int) by unfold endsK;rw[j_ (by omega)];omega)
   go_enter func110,ntmps110
   go_wp2;go_ret;exact⟨zca HE.o,B_ _ _⟩
  ·have HE:=H_ (show (0:Int)=((endsK (.leaf n):Nat):Int) by unfold endsK;rw[l_ (by omega)];rfl)
   go_enter func110,ntmps110
   go_wp2;go_ret;exact⟨zca HE.o,B_ _ _⟩
 | star x ih=>
  intro lo hi v w hx hok hs hh;simp only[KT.size]at hs;have hlen:(KT.star x).post.length=x.size+1:=by rw[zar];rfl
  obtain⟨a,cap,rfl,_,hcm⟩:=τ hx;obtain⟨b,off,rfl⟩:=hx.notNil (by omega)
  have hc1:w.cell? (p_ b (off+x.size))=some (.int .i64 21):=by
   obtain⟨b',off',e,_,_,_,hc⟩:=hx.get x.size (by omega);injection e with e;injection e with e1 e2;subst e1 e2;rw[hc];simp[KT.post,<-zar]
  rw[hlen];clear ih hok hx hcm
  go_enter func110,ntmps110
  go_wp2;go_ret;exact⟨rfl,B_ _ _⟩
 | bin p x y ihx ihy=>
  intro lo hi v w hx hok hs hh;simp only[KT.ok,d_]at hok;obtain⟨hokx,hoky⟩:=hok;simp only[KT.size]at hs;have hlen:(KT.bin p x y).post.length=x.size+y.size+1:=by rw[zar];rfl
  have HALF:=H_ (show Calls prog 156 #[v] w (zhg λa b w2=>Below w w w2/\SlI lo hi w2 a x.post/\SlI lo hi w2 b y.post) from
   (zgy lo hi v 0 p x y w hx (by omega) hoky).mono (by rintro e w2 ⟨va,vb,rfl,⟨m,rfl⟩,ha,hb⟩;exact⟨va,vb,rfl,S_ (B_ _ _) m,ha,hb⟩))
  obtain⟨a,cap,rfl,_,hcm⟩:=τ hx;obtain⟨b,off,rfl⟩:=hx.notNil (by omega)
  have hc1:w.cell? (p_ b (off+(x.size+y.size)))=some (.int .i64 (KT.op p)):=by
   obtain⟨b',off',e,_,_,_,hc⟩:=hx.get (x.size+y.size) (by omega);injection e with e;injection e with e1 e2;subst e1 e2;rw[hc];simp[KT.post,<-zar]
  rw[hlen]at HALF ⊢;have IHX:=H_ ihx;have IHY:=H_ ihy;have hex:=zd3 hokx;have hey:=zd3 hoky;have HOR:=H_ (zm0 (endsK x) (endsK y) (by omega) (by omega));have HAN:=H_ (zq2 (endsK x) (endsK y) (by omega) (by omega));have HEK:=H_ (show endsK (.bin p x y)=if p then endsK x ||| endsK y else endsK x &&& endsK y from rfl);clear ihx ihy hx hex hey hcm;cases p
  ·have hop:KT.op false=19:=rfl
   rw[hop]at hc1
   go_enter func110,ntmps110
   go_wp2_with fail
   refine HALF.o.mono ?_;rintro e w2 ⟨va,vb,rfl,h_,ha,hb⟩;have hs2:=h_.size;have HB:=H_ h_;have HA:=H_ ha;have HY:=H_ hb;obtain⟨aa,ac,rfl,_,_⟩:=τ ha;obtain⟨ba,bc,rfl,_,_⟩:=τ hb;clear h_ ha hb HALF;go_wp2_with fail
   refine(IHX.o lo hi _ w2 HA.o hokx (by omega) (by omega)).mono ?_;rintro e w3 ⟨rfl,hb⟩;have hs3:=hb.size;replace HB:=HB.ts hb;replace HY:=H_ (HY.o.below hb (by omega));clear hb HA;go_wp2_with fail
   refine(IHY.o lo hi _ w3 HY.o hoky (by omega) (by omega)).mono ?_;rintro e w4 ⟨rfl,hb⟩;replace HB:=HB.ts hb;clear hb HY;go_wp2_with fail
   refine(HAN.o w4).mono ?_;rintro e _ ⟨rfl,rfl⟩;go_wp2;go_ret;exact⟨by rw[HEK.o];rfl,HB.o⟩
  ·have hop:KT.op true=20:=rfl
   rw[hop]at hc1
   go_enter func110,ntmps110
   go_wp2_with fail
   refine HALF.o.mono ?_;rintro e w2 ⟨va,vb,rfl,h_,ha,hb⟩;have hs2:=h_.size;have HB:=H_ h_;have HA:=H_ ha;have HY:=H_ hb;obtain⟨aa,ac,rfl,_,_⟩:=τ ha;obtain⟨ba,bc,rfl,_,_⟩:=τ hb;clear h_ ha hb HALF;go_wp2_with fail
   refine(IHX.o lo hi _ w2 HA.o hokx (by omega) (by omega)).mono ?_;rintro e w3 ⟨rfl,hb⟩;have hs3:=hb.size;replace HB:=HB.ts hb;replace HY:=H_ (HY.o.below hb (by omega));clear hb HA;go_wp2_with fail
   refine(IHY.o lo hi _ w3 HY.o hoky (by omega) (by omega)).mono ?_;rintro e w4 ⟨rfl,hb⟩;replace HB:=HB.ts hb;clear hb HY;go_wp2_with fail
   refine(HOR.o w4).mono ?_;rintro e _ ⟨rfl,rfl⟩;go_wp2;go_ret;exact⟨by rw[HEK.o];rfl,HB.o⟩
noncomputable def zdp(e:List Int):Int:=if μ e then ((endsK (Κ e):Nat):Int) else -1
theorem zx1(lo hi:Nat)(v:Value)(es:List Int)(w:World)(hx:SlI lo hi w v es)(hm:es.length<=1048576)(hh:hi<=w):
  Calls prog 58 #[v] w λe w'=>e=.returned (.int .i64 (zdp es))/\Below w w w':=by
 obtain⟨a,cap,rfl,_,_⟩:=τ hx;have HX:=H_ hx;clear hx;cases hk:μ es with
 | true=>
  obtain⟨t,h1,h2,_,h4⟩:=zez hk;have HE:=H_ (show zdp es=((endsK t:Nat):Int) by rw[zdp,hk,l_ rfl,<-h2,zdk h1]);have HC:=H_ (zkm t lo hi (.slice a es cap) w (by rw[h2];exact HX.o) h1 (by omega) hh);clear h1 h2 h4
  go_enter func58,ntmps58
  go_wp2_with fail
  refine(zby _ _ _ es _ HX.o (by omega)).mono ?_;rintro e w1 ⟨rfl,rfl⟩;rw[hk];clear hk;go_wp2_with fail
  refine HC.o.mono ?_;rintro e w2 ⟨rfl,hb⟩;have HB:=H_ hb;clear hb;go_wp2;go_ret;exact⟨zca HE.o.symm,HB.o⟩
 | false=>
  have HE:=H_ (show zdp es=-1 by rw[zdp,hk];rfl)
  go_enter func58,ntmps58
  go_wp2_with fail
  refine(zby _ _ _ es _ HX.o (by omega)).mono ?_;rintro e w1 ⟨rfl,rfl⟩;rw[hk];clear hk;go_wp2;go_ret;exact⟨zca HE.o.symm,B_ _ _⟩
theorem znz {e:List Int}(h:μ e=true):zdp e=((endsK (Κ e):Nat):Int)/\endsK (Κ e)<16:=by
 refine⟨by rw[zdp,h,l_ rfl],?_⟩;obtain⟨t,h1,h2,_,_⟩:=zez h;rw[<-h2,zdk h1];exact zd3 h1
theorem zvb(lo hi:Nat)(v:Value)(es:List Int)(w:World)(hx:SlI lo hi w v es)(hm:es.length<=1048576)(hh:hi<=w):
  Calls prog 96 #[v] w λe w'=>e=.returned (.int .i64 (zdp es))/\Below w w w':=by
 obtain⟨a,cap,rfl,_,_⟩:=τ hx;have HX:=H_ hx;clear hx;cases hk:μ es with
 | true=>
  obtain⟨t,h1,h2,_,h4⟩:=zez hk;have HE:=H_ (show zdp es=((endsK t:Nat):Int) by rw[zdp,hk,l_ rfl,<-h2,zdk h1]);have HC:=H_ (zmg lo hi (.slice a es cap) t w (by rw[h2];exact HX.o) hh (by omega) h1);clear h1 h2 h4
  go_enter func96,ntmps96
  go_wp2_with fail
  refine(zdd _ _ _ es _ HX.o (by omega)).mono ?_;rintro e w1 ⟨rfl,rfl⟩;rw[hk];clear hk;go_wp2_with fail
  refine HC.o.mono ?_;rintro e w2 ⟨rfl,hb⟩;have HB:=H_ hb;clear hb;go_wp2;go_ret;exact⟨zca HE.o.symm,HB.o⟩
 | false=>
  have HE:=H_ (show zdp es=-1 by rw[zdp,hk];rfl)
  go_enter func96,ntmps96
  go_wp2_with fail
  refine(zdd _ _ _ es _ HX.o (by omega)).mono ?_;rintro e w1 ⟨rfl,rfl⟩;rw[hk];clear hk;go_wp2;go_ret;exact⟨zca HE.o.symm,B_ _ _⟩
theorem ztx(B b:Nat)(bs:List Value)(c:Int)(w:World)(h:Lib.IsBuilderF 156 5 B b bs w)(hlen:bs.length+1<=1073741824)(hBw:B<=w.heap.size):
  Calls prog 143 #[.pointer (some ⟨b,0,none⟩),.int .u8 c] w λe w'=>e=.returned .nilIface/\(Lib.BuilderAtF 156 5 B b (.pointer (some ⟨b,0,none⟩)) (bs++[.int .u8 c]) w'/\Below B w w'):=by
 obtain⟨i0,hi,hz0,hz1,hz2⟩:=bc_ zsl
 go_enter func143,ntmps143
 go_wp2_with (go_at_call 185;refine(zyc B b bs _ h).mono ?_)
 rintro e w1 ⟨rfl,h1,hb1⟩;obtain⟨hB,v,hbk,hown,hne⟩:=h1;have c0:w1.cell? (p_ b 0)=some (.pointer (some ⟨b,0,none⟩)):=by rw[aq_ hbk];rfl
 have c1:w1.cell? (p_ b 1)=some v:=by rw[aq_ hbk];rfl
 go_wp2_with (at_builtin;refine wpList_append_ownF _ rfl _ _ 40 rfl B 5 i0 (.int .u8 0) 1 1 underlying40 hi hz0 hz1 hz2 rfl (by decide) _ _ _ rfl (hown.alloc _) (p_ w1 0) 1 1 [.int .u8 c] rfl rfl ?c1 ?c2 ?c3 ?c4 ?c5 ?_)
 case c1=>
  intro j u hj
  match j,hj with
  | 0,hj=>simp at hj;subst hj;simp[Addr.add]
 case c2=>intro u hu;simp at hu;subst hu;rfl
 case c3=>unfold maxLen;omega
 case c4=>omega
 case c5=>have:=hb1.size;simp;omega
 intro v' w2 hown' hgrow _
 have hlt:b<w1:=by
  rcases ay_ b w1 with h'|h'
  ·exact h'
  ·simp[Array.getElem?_eq_none h']at hbk
 have hb2:w2.heap[b]?=some (.cells #[.pointer (some ⟨b,0,none⟩),v] 156 (0,0)):=by
  rw[hgrow.block b (by simp;omega) (λe=>hne e.symm),Lib.alloc_old w1 _ b hlt];exact hbk
 have d0:w2.cell? (p_ b 0)=some (.pointer (some ⟨b,0,none⟩)):=by rw[aq_ hb2];rfl
 have d1:w2.cell? (p_ b 1)=some v:=by rw[aq_ hb2];rfl
 have f1:w2.frozen? (p_ b 1)=false:=b0_ hb2 1
 obtain⟨g,cap,rfl⟩:∃ g cap,v'=.slice (some ⟨g,0,none⟩) (bs.length+1) cap:=by
  rcases hown'.2 with⟨_,h0⟩|⟨g,cap,cur,fz,hv,_⟩
  ·omega
  ·exact⟨g,cap,hv⟩
 go_wp2;go_ret;refine⟨rfl,?_,?_⟩
 ·exact Lib.BuilderAtF.put (T:=156) (e:=5) hB hb2 (bs':=bs++[.int .u8 c]) (by simpa using hown') (by decide)
 ·exact((hb1.alloc (by have:=hb1.size;omega) _).grown hgrow (by have:=hb1.size;simp;omega) (λk hk=>(hown.lt k hk).1)).setCell (p:=p_ b 1) hB _
theorem zri(B b:Nat)(bs:List UInt8)(c:Int)(w:World)(h:Bld B b bs w)(hlen:bs.length+1<=1073741824)(hBw:B<=w.heap.size)(c0:0<=c)(c1:c<=255):
  Calls prog 143 #[.pointer (some ⟨b,0,none⟩),.int .u8 c] w λe w'=>e=.returned .nilIface/\Bld B b (bs++[UInt8.ofNat c.toNat]) w'/\Below B w w':=by
 refine(ztx B b _ c w h (by rw[Lib.byteCells_length];exact hlen) hBw).mono ?_;rintro e w' ⟨rfl,h1,h2⟩;refine⟨rfl,.inr ?_,h2⟩
 have:Lib.byteCells bs++[.int .u8 c]=Lib.byteCells (bs++[UInt8.ofNat c.toNat]):=by
  simp[Lib.byteCells];omega
 rw[<-this];exact h1
theorem z0z(lo hi:Nat)(v:Value)(xs:List Int)(w:World)(hx:SlI lo hi w v xs)(hm:xs.length<=1048576)(hhi:hi<=w):
  Calls prog 92 #[v] w λe w'=>e=.returned (.string ⟨(zeq xs).toArray⟩)/\Below w w w':=by
 have hx0:=hx;obtain⟨a,cap,rfl,hcap,hcm,hc⟩:=hx.open;clear hx hcm hcap hc;cases hv:zbm xs
 ·have HX:=H_ hx0
  clear hx0
  go_enter func92,ntmps92
  go_wp2_with (go_at_call 142;refine(zrz _ _ _ xs _ HX.o hm).mono ?_;rintro e w' ⟨rfl,rfl⟩)
  go_ret;exact⟨za3 (a:=[]) (by simp[zeq,hv]),B_ _ _⟩
 ·have HX:=H_ hx0
  clear hx0;have hlen:=(zwt hv).2
  go_enter func92,ntmps92
  go_wp2_with (go_at_call 142;refine(zrz _ _ _ xs _ HX.o hm).mono ?_;rintro e w' ⟨rfl,rfl⟩)
  go_loopw [11] (λi wr=>∃ k:Nat,∃ l:List UInt8,k<=xs.length/\i=.int .i64 k/\l.length<=k/\Q_ (l=zd8 0 (xs.take k))/\Bld w w l wr/\Below w w wr) (λi _=>xs.length-(intOf i).toNat)
  case atStart=>exact⟨0,[],by omega,rfl,le_ _,H_ rfl,zx0 w,(B_ _ _).alloc (le_ _) _⟩
  case round=>
   obtain⟨k,l,hk,rfl,hll,HL,HB,hb⟩:=hrel;have HB':=H_ HB;clear HB;have hx1:=HX.o.below hb hhi;by_cases hlt:k<xs.length
   ·(obtain⟨b,off,rfl,_,_,hbs,hcell⟩:=hx1.get k hlt);have hsz:=hb.size;have HBe:=H_ hb;clear hx1 hb;by_cases hp:k%2=0
    ·(have hp1:((k:Int)%2==0)=true:=by simp;omega);(obtain⟨hr1,hr2⟩:=zoz hv k hlt hp;have HT:=H_ (show zdy k xs[k]=UInt8.ofNat (48+xs[k]).toNat by simp[zdy,hp]);clear hp;go_wp2_with (go_at_call 143;refine(zri w w l _ _ HB'.o (by omega) hsz (by omega) (by omega)).mono ?_;rintro e w1 ⟨rfl,h1,h2⟩));go_roundw
     (case rel=>exact⟨k+1,l++[UInt8.ofNat (48+xs[k]).toNat],by omega,by go_num,by simp;omega,H_ (by rw[zke xs k hlt,HL.o,HT.o]),h1,HBe.o.trans h2⟩);case measure=>simp[intOf];omega
    ·(have hp1:((k:Int)%2==0)=false:=by simp;omega);(obtain⟨hr1,hr2⟩:=zql hv k hlt hp;have HT:=H_ (show zdy k xs[k]=UInt8.ofNat (97+xs[k]-16).toNat by simp[zdy,hp];congr 2;omega);clear hp;go_wp2_with (go_at_call 143;refine(zri w w l _ _ HB'.o (by omega) hsz (by omega) (by omega)).mono ?_;rintro e w1 ⟨rfl,h1,h2⟩));go_roundw
     (case rel=>exact⟨k+1,l++[UInt8.ofNat (97+xs[k]-16).toNat],by omega,by go_num,by simp;omega,H_ (by rw[zke xs k hlt,HL.o,HT.o]),h1,HBe.o.trans h2⟩);case measure=>simp[intOf];omega
   ·(obtain rfl:k=xs.length:=by omega);(have hsz:=hb.size;have HBe:=H_ hb;clear hx1 hb;go_wp2_with (go_at_call 144;refine(zs2 w w l _ HB'.o hsz).mono ?_;rintro e w1 ⟨rfl,h1⟩));go_ret;exact⟨za3 (by rw[HL.o,F_];simp[zeq,hv]),HBe.o.trans h1⟩
theorem zr7(lo hi:Nat)(a b c d:Value)(D:Dsk)(w:World)(hE:zao w)(hx:Η lo hi w a b c d D)(hh:hi<=w)(hm:D.size<=1048576)(hv:ω D=true):
  Calls prog 49 #[ν a b c d,.string ⟨#[110,111,119]⟩] w λe w'=>e=.returned (.string ⟨(zbr D.now).toArray⟩)/\Below w w w':=by
 have HM:=H_ hm;have HV:=H_ hv;have hmade:=(zb6 hv).2.2.2.1;have⟨w0,hw0⟩:=xa_ w #[a,b,c,d] 31;obtain⟨hb0,K_,hs0⟩:=zah hw0;have K:=H_ K_;have HX:=H_ (hx.below hb0 hh);have HB:=H_ hb0;have HE:=H_ (hE.below hb0);have HW0:=H_ hw0;have⟨k0,k1,k2,k3⟩:=K.o.c4;unfold Dsk.size at hm;rw[hw0]at k0 k1 k2 k3;clear hx hE hb0 K_ hw0 hv
 go_enter func49,ntmps49
 go_wp2_with fail
 simp only[<-HW0.o];refine(zli _ D.now w0 (zd5 HX.o.now (by omega)) (by omega) HE.o.map).mono ?_;rintro e1 w1 ⟨rfl,hb1⟩;have HB1:=HB.tr hb1 (by omega);clear hb1 k0 k1 k2 k3;go_wp2;go_ret;exact⟨rfl,HB1.o⟩
theorem zwx(lo hi:Nat)(a b c d:Value)(D:Dsk)(w:World)(hE:zao w)(hx:Η lo hi w a b c d D)(hh:hi<=w)(hm:D.size<=1048576)(hv:ω D=true):
  Calls prog 49 #[ν a b c d,.string ⟨#[102,105,114,115,116]⟩] w λe w'=>e=.returned (.string ⟨(zbr D.first).toArray⟩)/\Below w w w':=by
 have HM:=H_ hm;have HV:=H_ hv;have hmade:=(zb6 hv).2.2.2.1;have⟨w0,hw0⟩:=xa_ w #[a,b,c,d] 31;obtain⟨hb0,K_,hs0⟩:=zah hw0;have K:=H_ K_;have HX:=H_ (hx.below hb0 hh);have HB:=H_ hb0;have HE:=H_ (hE.below hb0);have HW0:=H_ hw0;have⟨k0,k1,k2,k3⟩:=K.o.c4;unfold Dsk.size at hm;rw[hw0]at k0 k1 k2 k3;clear hx hE hb0 K_ hw0 hv
 go_enter func49,ntmps49
 go_wp2_with fail
 simp only[<-HW0.o];refine(zli _ D.first w0 (zd5 HX.o.first (by omega)) (by omega) HE.o.map).mono ?_;rintro e1 w1 ⟨rfl,hb1⟩;have HB1:=HB.tr hb1 (by omega);clear hb1 k0 k1 k2 k3;go_wp2;go_ret;exact⟨rfl,HB1.o⟩
theorem z0f(lo hi:Nat)(a b c d:Value)(D:Dsk)(w:World)(hE:zao w)(hx:Η lo hi w a b c d D)(hh:hi<=w)(hm:D.size<=1048576)(hv:ω D=true):
  Calls prog 49 #[ν a b c d,.string ⟨#[103,111,97,108]⟩] w λe w'=>e=.returned (.string ⟨(zbr D.goal).toArray⟩)/\Below w w w':=by
 have HM:=H_ hm;have HV:=H_ hv;have hmade:=(zb6 hv).2.2.2.1;have⟨w0,hw0⟩:=xa_ w #[a,b,c,d] 31;obtain⟨hb0,K_,hs0⟩:=zah hw0;have K:=H_ K_;have HX:=H_ (hx.below hb0 hh);have HB:=H_ hb0;have HE:=H_ (hE.below hb0);have HW0:=H_ hw0;have⟨k0,k1,k2,k3⟩:=K.o.c4;unfold Dsk.size at hm;rw[hw0]at k0 k1 k2 k3;clear hx hE hb0 K_ hw0 hv
 go_enter func49,ntmps49
 go_wp2_with fail
 simp only[<-HW0.o];refine(zli _ D.goal w0 (zd5 HX.o.goal (by omega)) (by omega) HE.o.map).mono ?_;rintro e1 w1 ⟨rfl,hb1⟩;have HB1:=HB.tr hb1 (by omega);clear hb1 k0 k1 k2 k3;go_wp2;go_ret;exact⟨rfl,HB1.o⟩
theorem zyd(lo hi:Nat)(a b c d:Value)(D:Dsk)(w:World)(hE:zao w)(hx:Η lo hi w a b c d D)(hh:hi<=w)(hm:D.size<=1048576)(hv:ω D=true):
  Calls prog 49 #[ν a b c d,.string ⟨#[109,111,118,101,115]⟩] w λe w'=>e=.returned (.string ⟨(Γ D.made.length).toArray⟩)/\Below w w w':=by
 have HM:=H_ hm;have HV:=H_ hv;have hmade:=(zb6 hv).2.2.2.1;have⟨w0,hw0⟩:=xa_ w #[a,b,c,d] 31;obtain⟨hb0,K_,hs0⟩:=zah hw0;have K:=H_ K_;have HX:=H_ (hx.below hb0 hh);have HB:=H_ hb0;have HE:=H_ (hE.below hb0);have HW0:=H_ hw0;have⟨k0,k1,k2,k3⟩:=K.o.c4;unfold Dsk.size at hm;rw[hw0]at k0 k1 k2 k3;clear hx hE hb0 K_ hw0 hv;obtain⟨z0,z1,rfl,_,_⟩:=τ HX.o.made
 go_enter func49,ntmps49
 go_wp2_with fail
 simp only[<-HW0.o];refine(zme D.made.length w0 (by omega)).mono ?_;rintro e1 w1 ⟨rfl,rfl⟩;clear k0 k1 k2 k3;go_wp2;go_ret;exact⟨rfl,HB.o⟩
theorem zvw(lo hi:Nat)(a b c d:Value)(D:Dsk)(w:World)(hE:zao w)(hx:Η lo hi w a b c d D)(hh:hi<=w)(hm:D.size<=1048576)(hv:ω D=true):
  Calls prog 49 #[ν a b c d,.string ⟨#[100,111,110,101]⟩] w λe w'=>e=.returned (.string ⟨(if eqL D.now D.goal then zec else noT).toArray⟩)/\Below w w w':=by
 have HM:=H_ hm;have HV:=H_ hv;have hmade:=(zb6 hv).2.2.2.1;have⟨w0,hw0⟩:=xa_ w #[a,b,c,d] 31;obtain⟨hb0,K_,hs0⟩:=zah hw0;have K:=H_ K_;have HX:=H_ (hx.below hb0 hh);have HB:=H_ hb0;have HE:=H_ (hE.below hb0);have HW0:=H_ hw0;have⟨k0,k1,k2,k3⟩:=K.o.c4;unfold Dsk.size at hm;rw[hw0]at k0 k1 k2 k3;clear hx hE hb0 K_ hw0 hv;have⟨E,hE⟩:=ex_ (eqL D.now D.goal);have HD:=H_ (show (ω D&&eqL D.now D.goal)=E by rw[HV.o,hE];rfl);rw[<-hE];clear hE
 go_enter func49,ntmps49
 go_wp2_with fail
 simp only[<-HW0.o];refine(zv7 _ _ a b c d D w0 HE.o HX.o (by omega) HM.o).mono ?_;rintro e1 w1 ⟨rfl,hb1⟩;have HB1:=HB.tr hb1 (by omega);rw[HD.o];clear hb1 k0 k1 k2 k3;cases E
 ·go_wp2
  go_ret;exact⟨rfl,HB1.o⟩
 ·go_wp2
  go_ret;exact⟨rfl,HB1.o⟩
theorem zzn(lo hi:Nat)(a b c d:Value)(D:Dsk)(w:World)(hE:zao w)(hx:Η lo hi w a b c d D)(hh:hi<=w)(hm:D.size<=1048576)(hv:ω D=true):
  Calls prog 49 #[ν a b c d,.string ⟨#[101,110,100,115]⟩] w λe w'=>e=.returned (.string ⟨(Ρ (endsK (Κ D.now))).toArray⟩)/\Below w w w':=by
 have HM:=H_ hm;have HV:=H_ hv;have hmade:=(zb6 hv).2.2.2.1;have⟨w0,hw0⟩:=xa_ w #[a,b,c,d] 31;obtain⟨hb0,K_,hs0⟩:=zah hw0;have K:=H_ K_;have HX:=H_ (hx.below hb0 hh);have HB:=H_ hb0;have HE:=H_ (hE.below hb0);have HW0:=H_ hw0;have⟨k0,k1,k2,k3⟩:=K.o.c4;unfold Dsk.size at hm;rw[hw0]at k0 k1 k2 k3;clear hx hE hb0 K_ hw0 hv;have HEV:=H_ (znz (zb6 HV.o).2.2.1);have⟨n,hn⟩:=ex_ (endsK (Κ D.now));rw[<-hn]at HEV ⊢
 go_enter func49,ntmps49
 go_wp2_with fail
 simp only[<-HW0.o];refine(zvb _ _ _ D.now w0 HX.o.now (by omega) (by omega)).mono ?_;rintro e1 w1 ⟨rfl,hb1⟩;rw[HEV.o.1];have HB1:=HB.tr hb1 (by omega);have HM1:=H_ (HE.o.map.below hb1);clear hb1 k0 k1 k2 k3 hn;go_wp2_with fail
 refine(zit n HEV.o.2 _ HM1.o).mono ?_;rintro e2 w2 ⟨rfl,rfl⟩;go_wp2;go_ret;exact⟨rfl,HB1.o⟩
theorem zw2(lo hi:Nat)(a b c d:Value)(D:Dsk)(w:World)(hE:zao w)(hx:Η lo hi w a b c d D)(hh:hi<=w)(hm:D.size<=1048576)(hv:ω D=true):
  Calls prog 49 #[ν a b c d,.string ⟨#[116,114,97,99,101]⟩] w λe w'=>e=.returned (.string ⟨(difT (differV D.now D.goal)).toArray⟩)/\Below w w w':=by
 have HM:=H_ hm;have HV:=H_ hv;have hmade:=(zb6 hv).2.2.2.1;have⟨w0,hw0⟩:=xa_ w #[a,b,c,d] 31;obtain⟨hb0,K_,hs0⟩:=zah hw0;have K:=H_ K_;have HX:=H_ (hx.below hb0 hh);have HB:=H_ hb0;have HE:=H_ (hE.below hb0);have HW0:=H_ hw0;have⟨k0,k1,k2,k3⟩:=K.o.c4;unfold Dsk.size at hm;rw[hw0]at k0 k1 k2 k3;clear hx hE hb0 K_ hw0 hv
 go_enter func49,ntmps49
 go_wp2_with fail
 simp only[<-HW0.o];refine(zn6 _ _ _ _ _ _ D.now D.goal w0 HX.o.now HX.o.goal (by omega) (by omega) (by omega) (by omega)).mono ?_;rintro e1 w1 ⟨r,rfl,hor,hb1⟩;have hz1:=hb1.size;have HB1:=HB.tr hb1 (by omega);clear hb1 k0 k1 k2 k3;rcases hor with⟨t,v4,ht,rfl,hov,hl⟩|⟨hn,rfl⟩
 ·have HT:=H_ ht
  have HO:=H_ hov;clear hov ht;go_wp2_with fail
  refine(z0z _ _ _ t w1 HO.o.sl (by omega) (le_ _)).mono ?_;rintro e2 w2 ⟨rfl,hb2⟩;have HB2:=HB1.tr hb2 (by omega);clear hb2;go_wp2;go_ret;exact⟨by rw[HT.o];rfl,HB2.o⟩
 ·have HN:=H_ hn
  clear hn;go_wp2;go_ret;exact⟨by rw[HN.o];rfl,HB1.o⟩
theorem zwc(a b c d:Value)(l:List UInt8)(hq:NoQ l)(w:World):
  Calls prog 49 #[ν a b c d,.string ⟨l.toArray⟩] w λe w'=>e=.returned (.string ⟨zk1.toArray⟩)/\Below w w w':=by
 have HB:=H_ (ε w (.cells #[a,b,c,d] 31));obtain⟨n1,n2,n3,n4,n5,n6,n7,n8,n9⟩:=hq;have q1:=U_ n1;have q2:=U_ n2;have q3:=U_ n3;have q4:=U_ n4;have q5:=U_ n5;have q6:=U_ n6;have q7:=U_ n7;have q8:=U_ n8;have q9:=U_ n9;clear n1 n2 n3 n4 n5 n6 n7 n8 n9
 go_enter func49,ntmps49
 go_wp2;go_ret;exact⟨rfl,HB.o⟩
section
open Go.Maps
open Go.ChangeMaps (setBlock)
theorem zgn(k:Int)(h1:-2<=k)(h2:k<=2):keyOf prog 3 k=some (.int .i64 k):=
 keyOf_int_mk underlying3 (cv_ ⟨by omega,by omega⟩)
abbrev enE(k:Int)(s:List UInt8)(n:Nat):MapEntry:={ key:=.int .i64 k,val:=.string ⟨s.toArray⟩,born:=n }
structure FewK(es:Array MapEntry):Prop where
 key:∀ e∈es.toList,∃ z:Int,e.key=.int .i64 z/\-2<=z/\z<=2
theorem zl1 {b:Nat} {es:Array MapEntry} {cl:Nat}(h1:w.heap[b]?=some (.map es cl))(hk:FewK es)(k:Int)(k1:-2<=k)(k2:k<=2)(hn:∀ e∈es.toList,e.key≠.int .i64 k)(v:Value):
  (Instr.mapUpdate 109 (.map (some b)) k v).run prog w=.ok () (setBlock w b (.map (es.push { key:=.int .i64 k,val:=v,born:=cl }) (cl+1))):=by
 have hc:=zf9.check w false (zgn k k1 k2)
 have hkeys:∀ e∈es.toList,∃ l,keyOf prog 3 e.key=some l:=λe he=>by
  obtain⟨z,g1,g2,g3⟩:=hk.key e he;exact⟨_,by rw[g1];exact zgn z g2 g3⟩
 rcases zf9.find w (zgn k k1 k2) es.toList hkeys with⟨f1,_⟩|⟨j,e,f1,f2,f3⟩
 ·simp[Instr.mapUpdate,cl_ underlying109,bo_ h1,hc,f1,MapKept.run_setObj_map _ h1,Result.andThen,setBlock]
 ·exact absurd f3 (hn e (cc_ f2))
theorem zkw {b:Nat} {es:Array MapEntry} {cl:Nat}(h1:w.heap[b]?=some (.map es cl))(hk:FewK es)(k:Int)(k1:-2<=k)(k2:k<=2)(v:Value)(hv:∀ e∈es.toList,e.key=.int .i64 k->e.val=v)(hs:∃ e∈es.toList,e.key=.int .i64 k):
  (Instr.lookup 109 (.map (some b)) k false).run prog w=.ok v w:=by
 have hc:=zf9.check w es.isEmpty (zgn k k1 k2)
 have hkeys:∀ e∈es.toList,∃ l,keyOf prog 3 e.key=some l:=λe he=>by
  obtain⟨z,g1,g2,g3⟩:=hk.key e he;exact⟨_,by rw[g1];exact zgn z g2 g3⟩
 rcases zf9.find w (zgn k k1 k2) es.toList hkeys with⟨f1,f2⟩|⟨j,e,f1,f2,f3⟩
 ·obtain⟨e,he,hke⟩:=hs
  exact absurd hke (f2 e he)
 ·have e1:=hv e (cc_ f2) f3
  simp[Instr.lookup,cl_ underlying109,bo_ h1,hc,f1,Result.andThen,e1]
theorem zlr {b:Nat} {o:Obj}(h:b<w):(setBlock w b o).heap[b]?=some o:=by
 show (w.heap.setIfInBounds b _)[b]?=_
 rw[bm_,l_ rfl,l_ h]
theorem zmu {B:Nat} {w0:World} {b:Nat} {o:Obj}(h:Below B w0 w)(hb:B<=b):Below B w0 (setBlock w b o):=
 ⟨h.os,h.tape,h.output,by simpa [setBlock] using h.size,λi hi=>by
  show (w.heap.setIfInBounds b _)[i]?=_
  rw[bm_,j_ (by omega)];exact h.block i hi⟩
def esQ:Array MapEntry:=#[enE 1 zec 0,enE 0 noT 1,enE (-1) zkz 2]
theorem zkn:FewK esQ:=⟨λe he=>by
 simp only[esQ,z_,a5_,bf_]at he;rcases he with rfl|rfl|rfl
 ·exact⟨1,rfl,by omega,by omega⟩
 ·exact⟨0,rfl,by omega,by omega⟩
 ·exact⟨-1,rfl,by omega,by omega⟩⟩
theorem zz6(w0:World):∃ w1 w2 w3:World,(Instr.mapUpdate 109 (.map (some w0.heap.size)) (1:Int) (.string ⟨#[121,101,115]⟩)).run prog (w0.alloc (.map #[] 0))=.ok () w1 /\
  (Instr.mapUpdate 109 (.map (some w0.heap.size)) (0:Int) (.string ⟨#[110,111]⟩)).run prog w1=.ok () w2 /\
  (Instr.mapUpdate 109 (.map (some w0.heap.size)) (.int .i64 (-1)) (.string ⟨#[111,112,101,110]⟩)).run prog w2=.ok () w3/\Below w0 w0 w3/\Blk w0 (.map esQ 3) w3:=by
 have h0:(w0.alloc (.map #[] 0)).heap[w0.heap.size]?=some (.map #[] 0):=bu_ w0 _;have hz:w0.heap.size<(w0.alloc (.map #[] 0)).heap.size:=by simp
 have h1:=zlr (o:=.map (#[].push (enE 1 zec 0)) 1) hz;have hz1:w0.heap.size<(setBlock (w0.alloc (.map #[] 0)) w0 (.map (#[].push (enE 1 zec 0)) 1)).heap.size:=by simp[setBlock]
 have h2:=zlr (o:=.map ((#[].push (enE 1 zec 0)).push (enE 0 noT 1)) 2) hz1;refine⟨_,_,_,zl1 h0 ⟨λe he=>by simp at he⟩ 1 (by omega) (by omega) (λe he=>by simp at he) _,zl1 h1 ⟨λe he=>?_⟩ 0 (by omega) (by omega) (λe he=>?_) _,zl1 h2 ⟨λe he=>?_⟩ (-1) (by omega) (by omega) (λe he=>?_) _,?_,?_⟩
 ·simp at he;subst he;exact⟨1,rfl,by omega,by omega⟩
 ·simp at he;subst he;simp
 ·simp at he
  rcases he with rfl|rfl
  ·exact⟨1,rfl,by omega,by omega⟩
  ·exact⟨0,rfl,by omega,by omega⟩
 ·simp at he
  rcases he with rfl|rfl<;>simp
 ·exact zmu (zmu (zmu (ε _ _) (le_ _)) (le_ _)) (le_ _)
 ·exact zlr (by simp[setBlock])
theorem zz4 {b:Nat}(h:Blk b (.map esQ 3) w)(i:Int)(hi:i=1\/i=0\/i=-1):(Instr.lookup 109 (.map (some b)) i false).run prog w=.ok (.string ⟨(eqT i).toArray⟩) w:=by
  rcases hi with rfl|rfl|rfl
  · exact zkw h zkn 1 (by omega) (by omega) _ (λe he hk => by
      simp only[esQ,z_,a5_,bf_]at he;rcases he with rfl|rfl|rfl
      · rfl
      · simp at hk
      · simp at hk) ⟨enE 1 zec 0,by simp[esQ],rfl⟩
  · exact zkw h zkn 0 (by omega) (by omega) _ (λe he hk => by
      simp only[esQ,z_,a5_,bf_]at he;rcases he with rfl|rfl|rfl
      · simp at hk
      · rfl
      · simp at hk) ⟨enE 0 noT 1,by simp[esQ],rfl⟩
  · exact zkw h zkn (-1) (by omega) (by omega) _ (λe he hk => by
      simp only[esQ,z_,a5_,bf_]at he;rcases he with rfl|rfl|rfl
      · simp at hk
      · simp at hk
      · rfl) ⟨enE (-1) zkz 2,by simp[esQ],rfl⟩
theorem zyv(lo hi:Nat)(a b c d:Value)(D:Dsk)(w:World)(hx:Η lo hi w a b c d D)(hh:hi<=w)(hm:D.size<=1048576):
  Calls prog 49 #[ν a b c d,.string ⟨#[101,113,117,97,108]⟩] w λe w'=>e=.returned (.string ⟨(eqT (equalV D.now D.goal)).toArray⟩)/\Below w w w':=by
 have⟨w0,hw0⟩:=xa_ w #[a,b,c,d] 31;obtain⟨hb0,K_,hs0⟩:=zah hw0;obtain⟨w1,w2,w3,r1,r2,r3,hb3,hk3⟩:=zz6 w0;have hz3:=hb3.size;have HX:=H_ ((hx.below hb0 hh).below hb3 (by omega));have HB:=H_ (hb0.trans (hb3.mono (by omega)));have HK3:=H_ hk3;have HER:=H_ (equal_range D.now D.goal);have K:=K_.below hb3 (by omega);have k1:=K.cell 1;have k3:=K.cell 3;have hmk:(Instr.makeMap 109 none).run prog w0=.ok (.map (some w0.heap.size)) (w0.alloc (.map #[] 0)):=rfl;unfold Dsk.size at hm;clear hx hb0 hb3 K_ K hk3
 go_enter func49,ntmps49
 go_upto_region 15 with fail
 simp only[<-hw0];clear hw0;go_wp2_with fail
 clear r1 r2 r3 hmk;refine(zxq _ _ _ _ _ _ D.now D.goal w3 HX.o.now HX.o.goal (by omega) (by omega) (by omega) (by omega)).mono ?_;rintro e1 w4 ⟨rfl,hb4⟩;have HB4:=HB.tr hb4 (by omega);have hl:=zz4 (HK3.o.below hb4 HK3.o.lt) (equalV D.now D.goal) HER.o;have⟨i,hi⟩:=ex_ (equalV D.now D.goal);rw[<-hi]at hl ⊢;have HI:=H_ hi;clear hb4 k1 k3 hi;go_wp2;go_ret;exact⟨by rw[<-HI.o];rfl,HB4.o⟩
end
theorem zv6(ms:List Mv)(h:ms≠[]):zf8 (ms.map Α)=zco ms:=by
 cases ms with
 | nil=>exact absurd rfl h
 | cons m r=>simp[zf8,zco,List.foldl_map]
theorem zy5(lo hi:Nat)(a b c d:Value)(D:Dsk)(w:World)(hx:Η lo hi w a b c d D)(hh:hi<=w)(hv:ω D=true):
  Calls prog 49 #[ν a b c d,.string ⟨#[112,114,111,111,102]⟩] w λe w'=>e=.returned (.string ⟨(zco D.made).toArray⟩)/\Below w w w':=by
 have hmade:=(zb6 hv).2.2.2.1;have⟨w0,hw0⟩:=xa_ w #[a,b,c,d] 31;obtain⟨hb0,K_,hs0⟩:=zah hw0;have HX:=H_ (hx.below hb0 hh).made;have HB:=H_ hb0;have k2:=K_.cell 2;obtain⟨za,zc,rfl,_,_⟩:=SlM.shape HX.o;have⟨ms,hms⟩:=ex_ D.made;rw[<-hms]at HX hmade k2 hw0 ⊢;have HM0:Q_ (Own 1 w0 w0 9 w0 () 0 (zag ((ms.take 0).map Α))/\Below w0 w0 w0):=H_ ⟨Ξ _ _ _ _ _,B_ _ _⟩;clear hx hb0 K_ hv hms
 go_enter func49,ntmps49
 go_upto_region 22 with fail
 simp only[<-hw0];clear hw0;go_wp2;go_loopw [7,64] (λv i wr=>∃ k:Nat,k<=ms.length/\i=.int .i64 k/\Q_ (Own 1 w0 wr 9 wr v k (zag ((ms.take k).map Α))/\Below w0 w0 wr)) (λ_ i _=>ms.length-(intOf i).toNat)
 case atStart=>exact⟨0,by omega,rfl,HM0⟩
 case round=>
  rename World=>wr
  clear HM0;obtain⟨k,hk,rfl,HQ⟩:=hrel;have hwr:=HQ.o.2.size;obtain⟨qa,qc,hqv⟩:=ζ HQ.o.1;subst hqv;by_cases hlt:k<ms.length
  ·obtain⟨b1,off,rfl,_,_,hb1,q0,q1,q2⟩:=(HX.o.below HQ.o.2 (by omega)).get k hlt
   have HTK:=H_ (show (ms.take (k+1)).map Α=(ms.take k).map Α++[Α ms[k]] from by rw[s_ hlt,as_];rfl);have⟨m,hm⟩:=ex_ (ms[k]);rw[<-hm]at q0 q1 q2 HTK;clear hm;go_wp2_with fail
   have⟨w1,hw1⟩:=xa_ wr #[.int .i64 m.which,.bool m.back,.int .i64 m.at_] 67;have hb1:Below wr wr w1:=by rw[hw1];exact ε _ _
   have hz1:=hb1.size;have HB1:=H_ hb1;simp only[<-hw1];clear hw1 hb1 q0 q1 q2;refine(zlf m w1).mono ?_;rintro e2 w2 ⟨rfl,hb2⟩;have hz2:=hb2.size;have HB2:=HB1.tr hb2 hz1;have HO2:=H_ ((HQ.o.1.below HB2.o (le_ _)).wide2 (le_ _) (show wr<=w2.heap.size by omega));have HQ2:=H_ (HQ.o.2.trans (HB2.o.mono hwr));clear hb2 HQ HB1;go_wp2_with (at_builtin;go_loud (refine za9 w2 rfl _ _ 26 rfl 9 (.string ⟨#[]⟩) 1 16 underlying26 zga rfl (by decide) (by decide) rfl HO2.o 1 [.string ⟨(Α m).toArray⟩] rfl rfl (by intro u hu;simp only[b_] at hu;subst hu;rfl) rfl (by omega) (by omega) ?_))
   intro v3 w3 ho3 hg3 _ _;have hz3:=hg3.size;have hz3_:(w2.alloc (.cells #[.string ⟨(Α m).toArray⟩] 9)).heap.size=w2.heap.size+1:=κ _ _;have ha3:=ε w2 (.cells #[.string ⟨(Α m).toArray⟩] 9)
   have HN:=H_ (show Own 1 w0 w3 9 w3 v3 (k+1) (zag ((ms.take (k+1)).map Α))/\Below w0 w0 w3 from ⟨by
    rw[HTK.o,ziz,du_];exact ho3,δ (HQ2.o.trans (ha3.mono (by omega))) (zbk hg3 (HO2.o.alloc (.cells #[.string ⟨(Α m).toArray⟩] 9)).lt) (le_ _) (by omega)⟩)
   obtain⟨y3,yc3,rfl⟩:=ζ ho3;clear ho3 hg3 ha3 HO2 HQ2;go_wp2;go_roundw
   case rel=>exact⟨k+1,by omega,by go_num,HN⟩
   case measure=>first | (simp[intOf];done) | (simp[intOf];omega)
  ·obtain rfl:k=ms.length:=by omega
   by_cases h0:ms=[]
   ·(have hl0:ms.length<=0:=by simp[h0]);(have HR:=H_ (show zco ms=zhs by rw[h0];rfl);have g9:((ms.length:Int)==0)=true:=by simp[h0]);clear h0;go_wp2;go_ret;exact⟨by rw[HR.o];rfl,HB.o.trans (HQ.o.2.mono (by omega))⟩
   ·(have hl0:0<ms.length:=by cases ms with | nil=>exact absurd rfl h0 | cons=>simp);(have HR:=H_ (zv6 ms h0);have g9:((ms.length:Int)==0)=false:=by simp[h0]);(have HNE:=H_ (show ms.map Α≠[] from λh=>h0 (List.map_eq_nil_iff.1 h)))
    have HSL:=H_ (show SlT w0 wr wr (.slice qa ms qc) (ms.map Α) from by
     (have h:=HQ.o.1.sl;rw[F_]at h);show Sl 1 _ _ _ _ (ms.map Α).length _
     rw[E_];exact h)
    clear h0;go_wp2_with fail
    refine(zte _ _ _ _ _ (ms.map Α) wr HSL.o HNE.o (by rw[E_];omega) (λx hx=>by
     obtain⟨m,_,rfl⟩:=I_.1 hx;have:=zjn m;omega)).mono ?_
    rintro e2 w2 ⟨rfl,hb2⟩;have HB2:=H_ (HB.o.trans ((HQ.o.2.trans (hb2.mono hwr)).mono (by omega)));clear hb2;go_wp2;go_ret;exact⟨by rw[HR.o];rfl,HB2.o⟩
theorem zr6(D:Dsk):zaa D [110,111,119]=zbr D.now:=by unfold zaa;rw[l_ rfl]
theorem zrm(D:Dsk):zaa D [102,105,114,115,116]=zbr D.first:=by unfold zaa;rw[j_ (by decide),l_ rfl]
theorem zq1(D:Dsk):zaa D [103,111,97,108]=zbr D.goal:=by unfold zaa;rw[j_ (by decide),j_ (by decide),l_ rfl]
theorem znx(D:Dsk):zaa D [109,111,118,101,115]=Γ D.made.length:=by unfold zaa;rw[j_ (by decide),j_ (by decide),j_ (by decide),l_ rfl]
theorem zov(D:Dsk):zaa D [100,111,110,101]=if eqL D.now D.goal then zec else noT:=by unfold zaa;rw[j_ (by decide),j_ (by decide),j_ (by decide),j_ (by decide),l_ rfl]
theorem zqh(D:Dsk):zaa D [101,113,117,97,108]=eqT (equalV D.now D.goal):=by unfold zaa;rw[j_ (by decide),j_ (by decide),j_ (by decide),j_ (by decide),j_ (by decide),l_ rfl]
theorem zp5(D:Dsk):zaa D [101,110,100,115]=Ρ (endsK (Κ D.now)):=by unfold zaa;rw[j_ (by decide),j_ (by decide),j_ (by decide),j_ (by decide),j_ (by decide),j_ (by decide),l_ rfl]
theorem zkj(D:Dsk):zaa D [116,114,97,99,101]=difT (differV D.now D.goal):=by unfold zaa;rw[j_ (by decide),j_ (by decide),j_ (by decide),j_ (by decide),j_ (by decide),j_ (by decide),j_ (by decide),l_ rfl]
theorem zrl(D:Dsk):zaa D [112,114,111,111,102]=zco D.made:=by unfold zaa;rw[j_ (by decide),j_ (by decide),j_ (by decide),j_ (by decide),j_ (by decide),j_ (by decide),j_ (by decide),j_ (by decide),l_ rfl]
theorem zt4(lo hi:Nat)(a b c d:Value)(D:Dsk)(l:List UInt8)(w:World)(hE:zao w)(hx:Η lo hi w a b c d D)(hh:hi<=w)(hm:D.size<=1048576)(hv:ω D=true):
  Calls prog 49 #[ν a b c d,.string ⟨l.toArray⟩] w λe w'=>e=.returned (.string ⟨(zaa D l).toArray⟩)/\Below w w w':=by
 rcases zo7 l with rfl|rfl|rfl|rfl|rfl|rfl|rfl|rfl|rfl|hq
 ·rw[zr6];exact zr7 lo hi a b c d D w hE hx hh hm hv
 ·rw[zrm];exact zwx lo hi a b c d D w hE hx hh hm hv
 ·rw[zq1];exact z0f lo hi a b c d D w hE hx hh hm hv
 ·rw[znx];exact zyd lo hi a b c d D w hE hx hh hm hv
 ·rw[zov];exact zvw lo hi a b c d D w hE hx hh hm hv
 ·rw[zqh];exact zyv lo hi a b c d D w hx hh hm
 ·rw[zp5];exact zzn lo hi a b c d D w hE hx hh hm hv
 ·rw[zkj];exact zw2 lo hi a b c d D w hE hx hh hm hv
 ·rw[zrl];exact zy5 lo hi a b c d D w hx hh hv
 ·rw[zot hq];exact zwc a b c d l hq w
theorem zuy(lo hi:Nat)(a b c d:Value)(D:Dsk)(l:List UInt8)(s:ByteArray)(hs:s=⟨l.toArray⟩)(w:World)(hE:zao w)(hN:Env w)(hx:Η lo hi w a b c d D)(hh:hi<=w)(hm:D.size<=1048576)(hv:ω D=true)(hl:l.length<=2097152)(hr:za7 l=none):
  Calls prog 20 #[ν a b c d,.string s] w (zex λa' b' c' d' s' w'=>s'=⟨(zaa D l).toArray⟩/\Ζ w w' w' a' b' c' d' D/\Below w w w'):=by
 subst hs;have HM:=H_ hm;have⟨w0,hw0⟩:=ex_ ((w.alloc (.cells #[a,b,c,d] 31)).alloc (.cells #[(),(),(),()] 31));have hb0:Below w w w0:=by rw[hw0];exact((B_ _ _).alloc (le_ _) _).alloc (by simp) _
 have hs0:w0=w.heap.size+2:=by rw[hw0];simp
 have K1:Q_ (Blk w (.cells #[a,b,c,d] 31) w0):=by
  rw[hw0];exact H_ ((θ w _).below ((B_ (w.alloc _).heap.size _).alloc (le_ _) _) (by simp))
 have K3:Q_ (Blk (w+1) (.cells #[(),(),(),()] 31) w0):=by
  have h:=θ (w.alloc (.cells #[a,b,c,d] 31)) (.cells #[(),(),(),()] 31);rw[κ]at h;rw[hw0];exact H_ h
 have HX:=H_ (hx.below hb0 hh);have HB:=H_ hb0;have HE:=H_ (hE.below hb0);have HN:=H_ (hN.below hb0);have HW0:=H_ hw0;have HV:=H_ hv;have HRA:=H_ hr;clear hx hE hN hb0 hw0 hv hr hm;have⟨d0,d1,d2,d3⟩:=K1.o.c4
 go_enter func20,ntmps20
 go_wp2_with (rw[<-HW0.o])
 refine(zgs _ _ a b c d D w0 HE.o HX.o (by omega) HM.o).mono ?_;rintro e1 w1 ⟨rfl,hb1⟩;rw[HV.o];have hs1:=hb1.size;replace HB:=HB.tr hb1 (by omega);replace K1:=K1.kb hb1;replace K3:=K3.kb hb1;replace HX:=H_ (HX.o.below hb1 (by omega));replace HE:=H_ (HE.o.below hb1);replace HN:=H_ (HN.o.below hb1);clear hb1 d0 d1 d2 d3;go_wp2_with fail
 refine(zpk l _ rfl w1 HN.o hl).mono ?_;rintro e2 w2 ⟨rfl,hb2⟩;rw[HRA.o,zgv];have hs2:=hb2.size;replace HB:=HB.tr hb2 (by omega);replace K1:=K1.kb hb2;replace K3:=K3.kb hb2;replace HX:=H_ (HX.o.below hb2 (by omega));replace HE:=H_ (HE.o.below hb2);clear hb2 HN;have⟨w3,hw3⟩:=xa_ w2 #[(0:Int),(0:Int),.bool false,(0:Int),(0:Int)] 69;obtain⟨hb3,KA_,hs3⟩:=zah hw3;replace HB:=HB.tr hb3 (by omega);replace K1:=K1.kb hb3;replace K3:=K3.kb hb3;replace HX:=H_ (HX.o.below hb3 (by omega));replace HE:=H_ (HE.o.below hb3);have hgs:∀ w',Below w3 w3 w'->w'.cell? (p_ w 0)=some a/\w'.cell? (p_ w 1)=some b/\w'.cell? (p_ w 2)=some c/\w'.cell? (p_ w 3)=some d:=λw' hb=>⟨(K1.o.below hb K1.o.lt).cell 0,(K1.o.below hb K1.o.lt).cell 1,(K1.o.below hb K1.o.lt).cell 2,(K1.o.below hb K1.o.lt).cell 3⟩
 have hbA:Below w3 w3 w3.drew:=n_ (B_ _ _);have hS:=hgs w3 (B_ _ _);have hSA:=hgs _ hbA;have HGS:=H_ hgs;have hdz:w3.drew.heap.size=w3.heap.size:=rfl;have HXd:=H_ (HX.o.below hbA (by omega));clear hb3 KA_ hgs;go_upto_region 5 with fail
 simp only[<-hw3];clear hw3
 go_region_held3 (λw'=>w'.cell? (p_ w 0)=some a/\w'.cell? (p_ w 1)=some b/\w'.cell? (p_ w 2)=some c/\w'.cell? (p_ w 3)=some d) (first | with_reducible assumption | go_keep) (first
  | (go_at_call 37;refine(zho _ _ a b c d D w3.drew HXd.o (by omega) HM.o).mono ?_;rintro e5 w5 ⟨y0,y1,y2,y3,rfl,o_,hb_⟩;obtain⟨z0,z1,z2,z3,z4,z5,z6,z7,i0,i1,i2,i3⟩:=o_.open;subst i0 i1 i2 i3;(have hs5:=hb_.size);(have hb5:=hbA.trans (hb_.mono (by omega)));(have hS5:=HGS.o _ hb5);(have HB5:=H_ hb5);(have O5:=H_ o_);clear hb_ hb5 o_)
  | (go_at_call 49;refine(zt4 _ _ a b c d D l w5 (HE.o.below HB5.o) (HX.o.below HB5.o (by omega)) (by omega) HM.o HV.o).mono ?_;rintro e6 w6 ⟨rfl,hb_⟩;(have hs6:=hb_.size);(have hb6:=HB5.o.trans (hb_.mono (by omega)));(have hS6:=HGS.o _ hb6);(have k3:=K3.o.below hb6 K3.o.lt);(obtain⟨c0,c1,c2,c3⟩:=k3.c4);(obtain⟨f0,f1,f2,f3⟩:=k3.f4);(have KM:=H_ k3);(have hO_:=β.set4 (w+1) w6 (.slice z0 D.first z1) (.slice z2 D.goal z3) (.slice z4 D.made z5) (.slice z6 D.now z7));(have k1_:=(K1.o.below hb6 K1.o.lt).outside hO_ (.inl (by omega)));(obtain⟨j0,j1,j2,j3⟩:=k1_.c4);(have O6:=H_ (O5.o.below hb_ (by omega)));(have HB6:=H_ hb6);clear hb_ hb6 k3 hO_ k1_))
 have⟨wz,hwz⟩:=x4_ w6 (w+1) (.slice z0 D.first z1) (.slice z2 D.goal z3) (.slice z4 D.made z5) (.slice z6 D.now z7);have KZ:=KM.o.set4 (.slice z0 D.first z1) (.slice z2 D.goal z3) (.slice z4 D.made z5) (.slice z6 D.now z7);have hO:=β.set4 (w+1) w6 (.slice z0 D.first z1) (.slice z2 D.goal z3) (.slice z4 D.made z5) (.slice z6 D.now z7);rw[<-hwz]at KZ hO;have hsz:=hO.size;have HZ:=H_ (δ (HB.o.trans (HB6.o.mono (by omega))) hO (by omega) (by omega));have OZ:=H_ (O6.o.outside hO (.inr (by omega)));obtain⟨q0,q1,q2,q3⟩:=KZ.c4;clear KZ hO hS hSA hS5 hS6 hbA c0 c1 c2 c3 f0 f1 f2 f3 j0 j1 j2 j3;simp only[<-hwz];clear hwz;go_wp2;refine a_ (v:=.tuple #[ν (.slice z0 D.first z1) (.slice z2 D.goal z3) (.slice z4 D.made z5) (.slice z6 D.now z7),.string ⟨(zaa D l).toArray⟩]) (by simp[results,results20,go_sem,q0,q1,q2,q3]) rfl ⟨_,_,_,_,_,rfl,rfl,?_,HZ.o⟩;exact OZ.o.wide (by omega) (by omega)
theorem zy9(lo hi:Nat)(a b c d:Value)(D:Dsk)(s:ByteArray)(w:World)(hE:zao w)(hx:Η lo hi w a b c d D)(hh:hi<=w)(hm:D.size<=1048576)(hv:ω D=false):
  Calls prog 20 #[ν a b c d,.string s] w (zex λa' b' c' d' s' w'=>s'=⟨#[]⟩/\Ζ w w' w' a' b' c' d' Dsk.none/\Below w w w'):=by
 have HM:=H_ hm;have⟨w0,hw0⟩:=ex_ ((w.alloc (.cells #[a,b,c,d] 31)).alloc (.cells #[(),(),(),()] 31));have hb0:Below w w w0:=by rw[hw0];exact((B_ _ _).alloc (le_ _) _).alloc (by simp) _
 have hs0:w0=w.heap.size+2:=by rw[hw0];simp
 have K1:Q_ (Blk w (.cells #[a,b,c,d] 31) w0):=by
  rw[hw0];exact H_ ((θ w _).below ((B_ (w.alloc _).heap.size _).alloc (le_ _) _) (by simp))
 have K3:Q_ (Blk (w+1) (.cells #[(),(),(),()] 31) w0):=by
  have h:=θ (w.alloc (.cells #[a,b,c,d] 31)) (.cells #[(),(),(),()] 31);rw[κ]at h;rw[hw0];exact H_ h
 have HX:=H_ (hx.below hb0 hh);have HB:=H_ hb0;have HE:=H_ (hE.below hb0);have HW0:=H_ hw0;have HV:=H_ hv;clear hx hE hb0 hw0 hv hm;have⟨d0,d1,d2,d3⟩:=K1.o.c4
 go_enter func20,ntmps20
 go_wp2_with (rw[<-HW0.o])
 refine(zgs _ _ a b c d D w0 HE.o HX.o (by omega) HM.o).mono ?_;rintro e1 w1 ⟨rfl,hb1⟩;rw[HV.o];have hs1:=hb1.size;replace HB:=HB.tr hb1 (by omega);replace K3:=K3.kb hb1;clear hb1 d0 d1 d2 d3;have⟨c0,c1,c2,c3⟩:=K3.o.c4;have⟨f0,f1,f2,f3⟩:=K3.o.f4;have⟨wz,hwz⟩:=x4_ w1 (w+1) () () () ();have KZ:=K3.o.set4 () () () ();have hO:=β.set4 (w+1) w1 () () () ();rw[<-hwz]at KZ hO;have HZ:=H_ (δ HB.o hO (by omega) (by omega));obtain⟨q0,q1,q2,q3⟩:=KZ.c4;clear KZ hO;go_wp2;simp only[<-hwz];clear hwz;refine a_ (v:=.tuple #[ν () () () (),.string ⟨#[]⟩]) (by simp[results,results20,go_sem,q0,q1,q2,q3]) rfl ⟨_,_,_,_,_,rfl,rfl,?_,HZ.o⟩;exact Ζ.nils _ _ HZ.o.size wz
theorem zn7(b:Bool):okS b=⟨(okT b).toArray⟩:=by cases b<;>rfl
theorem zw9(lo hi:Nat)(a b c d:Value)(D:Dsk)(l:List UInt8)(s:ByteArray)(hs:s=⟨l.toArray⟩)(w:World)(hE:zao w)(hN:Env w)(hx:Η lo hi w a b c d D)(hh:hi<=w)(hm:D.size<=1048576)(hl:l.length<=2097152):
  Calls prog 20 #[ν a b c d,.string s] w (zex λa' b' c' d' s' w'=>s'=⟨(zav D l).2.toArray⟩/\Ζ w w' w' a' b' c' d' (zav D l).1/\Below w w w'):=by
 cases hv:ω D with
 | false=>
  rw[show zav D l=(Dsk.none,[]) by unfold zav;rw[hv];rfl];exact zy9 lo hi a b c d D s w hE hx hh hm hv
 | true=>
  cases hr:za7 l with
  | none=>
   rw[show zav D l=(D,zaa D l) by unfold zav zf6;rw[hv,hr];rfl];exact zuy lo hi a b c d D l s hs w hE hN hx hh hm hv hl hr
  | some A=>
   rw[show zav D l=((Φ D A).1,okT (Φ D A).2) by unfold zav zf6;rw[hv,hr];rfl];have h:=z0u lo hi a b c d D A l s hs w hE hN hx hh hm hv hl hr;rw[zn7]at h;exact h
theorem Ζ.le {lo hi:Nat} {a b c d:Value} {D:Dsk}(h:Ζ lo hi w a b c d D):lo<=hi:=by
 obtain⟨l1,h1,l2,h2,l3,h3,l4,h4,o1,o2,o3,o4,r1,_⟩:=h;omega
def RetDV(P:Value->Value->Value->Value->Value->World->Prop)(e:Ending)(w':World):Prop:=∃ a b c d v,e=.returned (.tuple #[ν a b c d,v])/\P a b c d v w'
abbrev SayR(w:World)(r:Dsk × List (List UInt8)):Ending->World->Prop:=RetDV λa b c d v w'=>∃ ld hd la ha,Ζ ld hd w' a b c d r.1/\Τ la ha 9 w' v r.2/\w.heap.size<=ld/\hd<=w'.heap.size/\w.heap.size<=la/\ha<=w'.heap.size/\(ha<=ld\/hd<=la)/\ld<=hd/\la<=ha/\Below w w w'
theorem zqe(lo hi lo' hi':Nat)(a b c d v:Value)(D:Dsk)(l:List (List UInt8))(w:World)(hE:zao w)(hN:Env w)(hx:Η lo hi w a b c d D)(hh:hi<=w)(hm:D.size<=1048576)(hl:SlT lo' hi' w v l)(hh':hi'<=w)(hll:∀ x∈l,x.length<=2097152)(hln:l.length<=1048576):
  Calls prog 12 #[ν a b c d,v] w (SayR w (zcd D l)):=by
 have HM:=H_ hm;have HLL:=H_ hll;unfold Dsk.size at hm;obtain⟨va,vc,rfl,hvc1,hvc2⟩:=SlT.shape hl;unfold maxLen at hvc2;have⟨w0,hw0⟩:=ex_ ((w.alloc (.cells #[a,b,c,d] 31)).alloc (.cells #[(),(),(),()] 31));have hb0:Below w w w0:=by rw[hw0];exact((B_ _ _).alloc (le_ _) _).alloc (by simp) _
 have hs0:w0=w.heap.size+2:=by rw[hw0];simp
 have K1:Q_ (Blk w (.cells #[a,b,c,d] 31) w0):=by
  rw[hw0];exact H_ ((θ w _).below ((B_ (w.alloc _).heap.size _).alloc (le_ _) _) (by simp))
 have K3:Q_ (Blk (w+1) (.cells #[(),(),(),()] 31) w0):=by
  have h:=θ (w.alloc (.cells #[a,b,c,d] 31)) (.cells #[(),(),(),()] 31);rw[κ]at h;rw[hw0];exact H_ h
 have HX:=H_ (hx.below hb0 hh);have HL:=H_ (zb9 hl hb0 hh');have HB:=H_ hb0;have HE:=H_ hE;have HN:=H_ hN;have HW0:=H_ hw0;clear hx hl hb0 hw0 hll hE hN;have⟨dv,hdv⟩:=ex_ (ω D);have HDV:=H_ hdv;clear hdv;have⟨d0,d1,d2,d3⟩:=K1.o.c4
 go_enter func12,ntmps12
 go_wp2_with (rw[<-HW0.o])
 refine(zgs _ _ a b c d D w0 (HE.o.below HB.o) HX.o (by omega) HM.o).mono ?_;rintro e1 w1 ⟨rfl,hb1⟩;rw[<-HDV.o];have hs1:=hb1.size;replace HB:=HB.tr hb1 (by omega);replace K1:=K1.kb hb1;replace K3:=K3.kb hb1;replace HX:=H_ (HX.o.below hb1 (by omega));replace HL:=H_ (zb9 HL.o hb1 (by omega));clear hb1 d0 d1 d2 d3;have⟨d0,d1,d2,d3⟩:=K1.o.c4;by_cases hc:dv=true/\l.length<=40
 ·obtain⟨rfl,h40⟩:=hc
  have hn40:¬(40:Int)<(l.length:Int):=by omega
  have HV:=H_ (HDV.o.symm:ω D=true);have HR:=H_ (show zcd D l=zcr D l by rw[zcd,l_ ⟨HV.o,h40⟩]);go_wp2_with fail
  refine(zho _ _ a b c d D w1 HX.o (by omega) HM.o).mono ?_;rintro e2 w2 ⟨z0,z1,z2,z3,rfl,ho2,hb2⟩;have hs2:=hb2.size;replace HB:=HB.tr hb2 (by omega);replace K3:=H_ (K3.o.below hb2 (by omega));replace HL:=H_ (zb9 HL.o hb2 (by omega));obtain⟨x0,y0,x1,y1,x2,y2,x3,y3,e0,e1,e2,e3⟩:=ho2.open;subst e0 e1 e2 e3;have HO2:=H_ ho2;clear hb2 ho2 d0 d1 d2 d3;have⟨wo,hwo⟩:=xa_ w2 #[.slice x0 D.first y0,.slice x1 D.goal y1,.slice x2 D.made y2,.slice x3 D.now y3] 31;have KO:Q_ (Blk w2 (.cells #[.slice x0 D.first y0,.slice x1 D.goal y1,.slice x2 D.made y2,.slice x3 D.now y3] 31) wo):=by rw[hwo];exact H_ (θ w2 _)
  have hbo:Below w2 w2 wo:=by rw[hwo];exact(B_ _ _).alloc (le_ _) _
  have hso:wo=w2.heap.size+1:=by rw[hwo];simp
  have HWO:=H_ hwo;replace HB:=HB.tr hbo (by omega);replace K3:=H_ (K3.o.below hbo (by omega));replace HL:=H_ (zb9 HL.o hbo (by omega));replace HO2:=H_ (HO2.o.below hbo (le_ _));clear hwo hbo;have hgl:w+2<=w2.heap.size:=by omega
  go_wp2_with (rw[<-HWO.o])
  go_loopw [7,25] (λn i wr=>∃ (k:Nat) (D':Dsk) (ts:List (List UInt8)) (a' b' c' d':Value) (l2 h2 la ha:Nat),k<=l.length/\i=.int .i64 k/\ts.length=k/\Q_ ((D',ts)=zcr D (l.take k)/\Ζ l2 h2 wr a' b' c' d' D'/\w.heap.size+2<=l2/\h2<=wr/\Blk w2 (.cells #[a',b',c',d'] 31) wr/\Blk (w+1) (.cells #[(),(),(),()] 31) wr/\Below w w wr/\wo<=wr.heap.size/\SlT lo' hi' wr (.slice va l vc) l/\Τ la ha 9 wr n ts/\wo.heap.size<=la/\la<=ha/\ha<=wr/\(ha<=l2\/h2<=la)/\(ha<=w2.heap.size\/w2.heap.size<la))) (λ_ i _=>l.length-(intOf i).toNat)
  case atStart=>
   exact⟨0,D,[],_,_,_,_,_,_,_,_,by omega,rfl,rfl,H_ ⟨rfl,HO2.o,by omega,by omega,KO.o,K3.o,HB.o,le_ _,HL.o,Ξ _ _ _ _ _,le_ _,le_ _,le_ _,by omega,by omega⟩⟩
  case round=>
   rename World=>wr
   clear KO K3 HB HL HO2 ;obtain⟨k,D',ts,a',b',c',d',l2,h2,la,ha,hk,rfl,htl,HQ⟩:=hrel;have HP:=H_ HQ.o.1;have HO:=H_ HQ.o.2.1;have hl2:=HQ.o.2.2.1;have hh2:=HQ.o.2.2.2.1;have KO:=H_ HQ.o.2.2.2.2.1;have K3:=H_ HQ.o.2.2.2.2.2.1;have HB:=H_ HQ.o.2.2.2.2.2.2.1;have hsr:=HQ.o.2.2.2.2.2.2.2.1;have HL:=H_ HQ.o.2.2.2.2.2.2.2.2.1;have HA:=H_ HQ.o.2.2.2.2.2.2.2.2.2.1;have hla:=HQ.o.2.2.2.2.2.2.2.2.2.2.1;have hlh:=HQ.o.2.2.2.2.2.2.2.2.2.2.2.1;have hha:=HQ.o.2.2.2.2.2.2.2.2.2.2.2.2.1;have hdj:=HQ.o.2.2.2.2.2.2.2.2.2.2.2.2.2.1;have hdo:=HQ.o.2.2.2.2.2.2.2.2.2.2.2.2.2.2;clear HQ;have HTL:=H_ htl;have htk:ts.length<=40:=by omega
   clear htl;have hsz:=HB.o.size;obtain⟨n0,n1,n2,n3,n4,n5,n6,n7,e0,e1,e2,e3⟩:=HO.o.open;subst e0 e1 e2 e3;obtain⟨ta,tc,hnv⟩:=ζ HA.o;subst hnv;have HV':=H_ (show ω D'=true by have h:=zkp HV.o (l.take k);rw[<-HP.o] at h;exact h);have hms:=zh8 HV'.o;by_cases hlt:k<l.length
   ·(obtain⟨bb,off,rfl,_,hbh,hbs,g0⟩:=zf3 HL.o k hlt);(have hxl:=HLL.o _ (k_ hlt);have⟨ln,hxx⟩:=ex_ (l[k]);rw[<-hxx]at g0 hxl;have HST:=H_ (show zd7 (D',ts) ln=zcr D (l.take (k+1)) by rw[hxx,zp2 D l k hlt,<-HP.o]);clear hxx;have⟨o0,o1,o2,o3⟩:=KO.o.c4;have hlo:=KO.o.lt;go_wp2_with fail);refine(zw9 _ _ _ _ _ _ D' ln _ rfl wr (HE.o.below HB.o) (HN.o.below HB.o) HO.o.at (by omega) (by omega) hxl).mono ?_;rintro e3 w3 ⟨u0,u1,u2,u3,s3,rfl,hs3,ho3,hb3⟩;have hz3:=hb3.size;replace HB:=HB.tr hb3 (by omega);replace KO:=H_ (KO.o.below hb3 (by omega));replace K3:=H_ (K3.o.below hb3 (by omega));replace HL:=H_ (zb9 HL.o hb3 (by omega));replace HA:=H_ (Τ.below HA.o hb3 (by omega));have⟨X,hX⟩:=ex_ ((zav D' ln).1);have⟨t,ht⟩:=ex_ ((zav D' ln).2);rw[<-hX]at ho3;rw[<-ht]at hs3;subst hs3;have HST2:=H_ (show (X,ts++[t])=zcr D (l.take (k+1)) by rw[<-HST.o,zd7,hX,ht]);obtain⟨z0,z1,z2,z3,z4,z5,z6,z7,f0,f1,f2,f3⟩:=ho3.open;subst f0 f1 f2 f3;have HO3:=H_ ho3;clear hb3 ho3 hX ht o0 o1 o2 o3 g0 HO HST hxl;have⟨wn,hwn⟩:=xa_ w3 #[.slice z0 X.first z1,.slice z2 X.goal z3,.slice z4 X.made z5,.slice z6 X.now z7] 31;have hbn:Below w3 w3 wn:=by rw[hwn];exact(B_ _ _).alloc (le_ _) _
    (have hsn:wn=w3.heap.size+1:=by rw[hwn];simp);(have KN:Q_ (Blk w3 (.cells #[.slice z0 X.first z1,.slice z2 X.goal z3,.slice z4 X.made z5,.slice z6 X.now z7] 31) wn):=by rw[hwn];exact H_ (θ w3 _));(have HWN:=H_ hwn;replace HB:=HB.tr hbn (by omega);replace KO:=H_ (KO.o.below hbn (by omega));replace K3:=H_ (K3.o.below hbn (by omega));replace HL:=H_ (zb9 HL.o hbn (by omega));replace HA:=H_ (Τ.below HA.o hbn (by omega));replace HO3:=H_ (HO3.o.below hbn (by omega));clear hbn hwn;have⟨n0_,n1_,n2_,n3_⟩:=KN.o.c4;have⟨f0,f1,f2,f3⟩:=KO.o.f4;have⟨c0,c1,c2,c3⟩:=KO.o.c4;have⟨wz,hwz⟩:=x4_ wn w2 (.slice z0 X.first z1) (.slice z2 X.goal z3) (.slice z4 X.made z5) (.slice z6 X.now z7);have KZ:=KO.o.set4 (.slice z0 X.first z1) (.slice z2 X.goal z3) (.slice z4 X.made z5) (.slice z6 X.now z7);have hO:=β.set4 (w2.heap.size) wn (.slice z0 X.first z1) (.slice z2 X.goal z3) (.slice z4 X.made z5) (.slice z6 X.now z7);rw[<-hwz]at KZ hO;have hsz2:=hO.size;have HZ:=H_ (δ HB.o hO (by omega) (by omega));have HKZ:=H_ KZ;have HAZ:=H_ (Τ.outside HA.o hO (by omega));have HLZ:=H_ (zg4 HL.o hO (.inl (by omega)));have K3Z:=H_ (K3.o.outside hO (.inl (by omega)));have HOZ:=H_ (HO3.o.outside hO (.inr (by omega)));clear KZ hO;go_upto_region 10 with(rw[<-HWN.o]));simp only[<-hwz];clear hwz n0_ n1_ n2_ n3_ f0 f1 f2 f3 c0 c1 c2 c3;go_wp2_with (at_builtin;refine zlw wz rfl _ _ 26 rfl 9 (.string ⟨#[]⟩) 1 16 underlying26 zga rfl (by decide) (by decide) rfl HAZ.o 1 [.string ⟨t.toArray⟩] rfl rfl (by intro u hu;simp only[b_] at hu;subst hu;rfl) rfl (by omega) (by omega) ?_)
    intro v9 w9 lo9 hi9 hown9 hrange9 hout9;have hs_9:=hout9.size;obtain⟨y9,yc9,hv9⟩:=ζ hown9;subst hv9;have HN9:=H_ (show Ζ wr w3 w9 (.slice z0 X.first z1) (.slice z2 X.goal z3) (.slice z4 X.made z5) (.slice z6 X.now z7) X/\Blk w2 (.cells #[.slice z0 X.first z1,.slice z2 X.goal z3,.slice z4 X.made z5,.slice z6 X.now z7] 31) w9/\Blk (w+1) (.cells #[(),(),(),()] 31) w9/\Below w w w9/\SlT lo' hi' w9 (.slice (some ⟨bb,off,none⟩) l vc) l/\Τ lo9 hi9 9 w9 (.slice y9 (ts.length+1) yc9) (ts++[t]) from ⟨HOZ.o.outside hout9 (by omega),HKZ.o.outside hout9 (by omega),K3Z.o.outside hout9 (by omega),δ HZ.o hout9 (by omega) (by omega),zg4 HLZ.o hout9 (.inl (by omega)),by have h_:=hown9;show Own 1 _ _ _ _ _ (ts++[t]).length _;rw[i_,ziz];exact h_⟩);have hws9:wz<=w9.heap.size:=hs_9;clear hown9 hout9 HOZ HKZ K3Z HZ HLZ HAZ;go_wp2;go_roundw
    case rel=>
     exact⟨k+1,X,ts++[t],_,_,_,_,_,_,lo9,hi9,by omega,by go_num,by rw[i_,HTL.o];rfl,H_ ⟨HST2.o,HN9.o.1,by omega,by omega,HN9.o.2.1,HN9.o.2.2.1,HN9.o.2.2.2.1,by omega,HN9.o.2.2.2.2.1,HN9.o.2.2.2.2.2,by omega,by omega,by omega,by omega,by omega⟩⟩
    case measure=>simp[intOf];omega
   ·(obtain rfl:k=l.length:=by omega);have HD:=H_ (show zcd D l=(D',ts) by rw[HR.o,HP.o,W_ (le_ _)]);have⟨o0,o1,o2,o3⟩:=KO.o.c4;clear hlt;have⟨f0,f1,f2,f3⟩:=K3.o.f4;have⟨c0,c1,c2,c3⟩:=K3.o.c4;have⟨wz,hwz⟩:=x4_ wr (w+1) (.slice n0 D'.first n1) (.slice n2 D'.goal n3) (.slice n4 D'.made n5) (.slice n6 D'.now n7);have KZ:=K3.o.set4 (.slice n0 D'.first n1) (.slice n2 D'.goal n3) (.slice n4 D'.made n5) (.slice n6 D'.now n7);have hO:=β.set4 (w+1) wr (.slice n0 D'.first n1) (.slice n2 D'.goal n3) (.slice n4 D'.made n5) (.slice n6 D'.now n7);rw[<-hwz]at KZ hO;have hsz:=hO.size;have HZ:=H_ (δ HB.o hO (by omega) (by omega));have HOZ:=H_ hO;obtain⟨q0,q1,q2,q3⟩:=KZ.c4;have HKZ:=H_ KZ;clear KZ hO;go_wp2;simp only[<-hwz];clear hwz;refine a_ (v:=.tuple #[ν (.slice n0 D'.first n1) (.slice n2 D'.goal n3) (.slice n4 D'.made n5) (.slice n6 D'.now n7),.slice ta ts tc]) (by simp[results,results12,go_sem,q0,q1,q2,q3]) rfl ⟨_,_,_,_,_,rfl,?_⟩;rw[HD.o];exact⟨l2,h2,la,ha,HO.o.outside HOZ.o (.inr (by omega)),Τ.outside HA.o HOZ.o (by omega),by omega,by omega,by omega,by omega,by omega,HO.o.le,hlh,HZ.o⟩
 ·have HD:=H_ (show zcd D l=(Dsk.none,[]) by rw[zcd,j_ (by rw[<-HDV.o];exact hc)])
  have hcs:dv=false\/dv=true/\(40:Int)<(l.length:Int):=by
   cases dv
   ·exact .inl rfl
   ·exact .inr ⟨rfl,by simp at hc;omega⟩
  clear hc;rcases hcs with rfl|⟨rfl,h40⟩
  all_goals (
   have⟨f0,f1,f2,f3⟩:=K3.o.f4;have⟨c0,c1,c2,c3⟩:=K3.o.c4;have⟨wz,hwz⟩:=x4_ w1 (w+1) () () () ();have KZ:=K3.o.set4 () () () ();have hO:=β.set4 (w+1) w1 () () () ();rw[<-hwz]at KZ hO;have hsz:=hO.size;have HZ:=H_ (δ HB.o hO (by omega) (by omega));have HOZ:=H_ hO;obtain⟨q0,q1,q2,q3⟩:=KZ.c4;have HKZ:=H_ KZ;clear KZ hO;go_wp2;simp only[<-hwz];clear hwz;refine a_ (v:=.tuple #[ν () () () (),()]) (by simp[results,results12,go_sem,q0,q1,q2,q3]) rfl ⟨_,_,_,_,_,rfl,?_⟩;rw[HD.o];exact⟨_,_,_,_,Ζ.nils w w (le_ _) _,Ξ 1 w w _ _,le_ _,HZ.o.size,le_ _,HZ.o.size,by omega,le_ _,le_ _,HZ.o⟩
)
theorem zqm(h1:k<=xs.length)(h2:k<=ys.length)(h:∀ j (_:j<k) (h2:j<xs.length) (h3:j<ys.length),xs[j]=ys[j]):ltL xs ys=ltL (xs.drop k) (ys.drop k):=by
 have e:xs.take k=ys.take k:=by
  refine av_ (by simp;omega) λi a b=>?_
  simp only[bi_];simp at a b;exact h i (by omega) (by omega) (by omega)
 conv=>lhs;rw[<-List.take_append_drop k xs,<-List.take_append_drop k ys,e]
 exact ltL_pre _ _ _
theorem zvh(h1:k<xs.length)(h2:k<ys.length)(h:∀ j (_:j<k) (h2:j<xs.length) (h3:j<ys.length),xs[j]=ys[j])(hne:xs[k]≠ys[k]):ltL xs ys=decide (xs[k]<ys[k]):=by
 rw[zqm (by omega) (by omega) h,q_ h1,q_ h2,ltL];by_cases hl:xs[k]<ys[k]
 ·simp[hl]
 ·have:ys[k]<xs[k]:=by omega
  simp[hl,this]
theorem zrv(h1:k<=xs.length)(h2:k<=ys.length)(hk:k=xs.length\/k=ys.length)(h:∀ j (_:j<k) (h2:j<xs.length) (h3:j<ys.length),xs[j]=ys[j]):ltL xs ys=decide (xs.length<ys.length):=by
 rw[zqm h1 h2 h];have l1:(xs.drop k).length=xs.length-k:=af_;have l2:(ys.drop k).length=ys.length-k:=af_;cases hx:xs.drop k<;>cases hy:ys.drop k<;>rw[hx] at l1<;>rw[hy] at l2<;>simp only[O_,y_] at l1 l2<;>simp only[ltL]
 ·symm;simp;omega
 ·symm;simp;omega
 ·symm;simp;omega
 ·omega
theorem znr(lo hi lo' hi':Nat)(v v':Value)(xs ys:List Int)(w:World)(hx:SlI lo hi w v xs)(hy:SlI lo' hi' w v' ys)(hm:xs.length<=16777216)(hm':ys.length<=16777216):
  Calls prog 113 #[v,v'] w λe w'=>e=.returned (.bool (ltL xs ys))/\Below w w w':=by
 obtain⟨a,cap,rfl,hcap,hcm,hc⟩:=hx.open;obtain⟨a',cap',rfl,hcap',hcm',hc'⟩:=hy.open;clear hx hcm hy hcm' hcap hcap'
 go_enter func113,ntmps113
 go_wp2;go_loopw [5] (λi wr=>∃ k m:Nat,k<=xs.length/\k<=ys.length/\i=.int .i64 k/\Q_ (∀ j (_:j<k) (h2:j<xs.length) (h3:j<ys.length),xs[j]=ys[j])/\wr=w.drewN m) (λi _=>xs.length-(intOf i).toNat)
 case atStart=>exact⟨0,0,by omega,by omega,rfl,H_ (by intro j h;omega),rfl⟩
 case round=>
  obtain⟨k,m,hk,hk',rfl,HJ,rfl⟩:=hrel;by_cases hlt:k<xs.length
  ·by_cases hlt':k<ys.length
   ·(obtain⟨b,off,rfl,_,_,hbs,hck⟩:=hc k hlt);obtain⟨b',off',rfl,_,_,hbs',hck'⟩:=hc' k hlt';clear hc hc';by_cases he:xs[k]=ys[k]
    ·(have HE:=H_ he);(have he1:(xs[k] !=ys[k])=false:=by simp[he]);clear he;go_wp2
     go_quiet (fail)
     go_wp2;go_roundw
     case rel=>
      refine⟨k+1,m+nq,by omega,by omega,by go_num,H_ ?_,by first | rfl | rw[b2_]⟩;intro j h1 h2 h3;rcases ay_ j k with h|h
      ·exact HJ.o j h h2 h3
      ·(obtain rfl:j=k:=by omega);exact HE.o
     case measure=>simp[intOf];omega
    ·(have HE:=H_ (zvh hlt hlt' HJ.o he));(have he1:(xs[k] !=ys[k])=true:=by simp[he]);clear he;go_wp2
     go_quiet (fail)
     go_wp2
     go_quiet (fail)
     go_wp2;go_ret;exact⟨ξ HE.o.symm,S_ (S_ (S_ (B_ _ _) _) _) _⟩
   ·(obtain rfl:k=ys.length:=by omega);have HE:=H_ (zrv hk (le_ _) (.inr rfl) HJ.o);go_wp2;go_ret;exact⟨ξ (by rw[HE.o]<;>simp),S_ (B_ _ _) _⟩
  ·obtain rfl:k=xs.length:=by omega
   have HE:=H_ (zrv (le_ _) hk' (.inl rfl) HJ.o);go_wp2;go_ret;exact⟨ξ (by rw[HE.o]<;>simp),S_ (B_ _ _) _⟩
end Go.Proofs.YtfnnhimopokpnaaGreatDoor
