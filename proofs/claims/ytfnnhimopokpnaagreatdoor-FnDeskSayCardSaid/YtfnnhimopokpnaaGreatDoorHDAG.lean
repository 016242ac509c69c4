/- Lemmas for this seat; no condition. -/
import Derived.Test.YtfnnhimopokpnaaGreatDoorHDAF
import Derived.Stop.LaidErr
import Derived.Lib.SmallJoins
namespace Go.Proofs.YtfnnhimopokpnaaGreatDoor
open Go.RowKit Proofs.Tryz
set_option maxRecDepth 100000
set_option maxHeartbeats 0
set_option linter.all false
variable {m:Mv} {w x:World} {n p q:Int} {g B:Nat} {c:UInt8} {r l:List UInt8}
def zzs:ByteArray:=⟨#[48,49,50,51,52,53,54,55,56,57,97,98,99,100,101,102,103,104,105,106,107,108,109,110,111,112,113,114,115,116,117,118,119,120,121,122]⟩
def zur:ByteArray:=⟨#[48,48,48,49,48,50,48,51,48,52,48,53,48,54,48,55,48,56,48,57,49,48,49,49,49,50,49,51,49,52,49,53,49,54,49,55,49,56,49,57,50,48,50,49,50,50,50,51,50,52,50,53,50,54,50,55,50,56,50,57,51,48,51,49,51,50,51,51,51,52,51,53,51,54,51,55,51,56,51,57,52,48,52,49,52,50,52,51,52,52,52,53,52,54,52,55,52,56,52,57,53,48,53,49,53,50,53,51,53,52,53,53,53,54,53,55,53,56,53,57,54,48,54,49,54,50,54,51,54,52,54,53,54,54,54,55,54,56,54,57,55,48,55,49,55,50,55,51,55,52,55,53,55,54,55,55,55,56,55,57,56,48,56,49,56,50,56,51,56,52,56,53,56,54,56,55,56,56,56,57,57,48,57,49,57,50,57,51,57,52,57,53,57,54,57,55,57,56,57,57]⟩
theorem zzw:∀ n,n<10->zzs.extract n (n+1)=⟨(Ε n).toArray⟩:=by decide +kernel
theorem z2l:∀ n,n<100->10<=n->zur.extract (n*2) (n*2+2)=⟨(Ε n).toArray⟩:=by decide +kernel
theorem zu7(n:Nat)(w:World)(h:n<100):
  Calls prog 204 #[.int .i64 n] w λe w'=>e=.returned (.string ⟨(Ε n).toArray⟩)/\w=w':=by
 by_cases h1:n<10
 ·have hk:=H_ (zzw n h1)
  go_enter func204,ntmps204
  go_wp2;go_ret;refine⟨?_,rfl⟩;rw[<-hk.o];rfl
 ·have hk:=H_ (z2l n h (by omega))
  go_enter func204,ntmps204
  go_wp2;go_ret;refine⟨?_,rfl⟩;rw[<-hk.o];rfl
theorem zpw(n:Nat)(w:World)(h:n<100):
  Calls prog 88 #[.int .i64 n] w λe w'=>e=.returned (.string ⟨(Ε n).toArray⟩)/\w=w':=by
 go_enter func88,ntmps88
 go_wp2_with (first | (go_at_call 204;refine(zu7 n _ h).mono ?_;rintro e w' ⟨rfl,rfl⟩) | go_in)
 go_ret;exact⟨rfl,rfl⟩
theorem zl1(n:Nat)(w:World)(h:n<100):
  Calls prog 88 #[.int .i64 n] w λe w'=>e=.returned (.string ⟨(Ε n).toArray⟩)/\w'=w:=
 (zpw n w h).mono λ_ _ h=>⟨h.1,h.2.symm⟩
def za5(m:Mv):Bool:=decide (0<=m.which)&&decide (m.which<=20)&&decide (0<=m.at_)&&decide (m.at_<=39)
def Β(m:Mv):List UInt8:=if za5 m then (if m.back then [45] else [43])++Ε m.which.toNat++[64]++Ε m.at_.toNat else []
theorem zfe(n:Nat):(Ε n).length<=2:=by unfold Ε;split<;>simp
theorem zvd(n:Nat):1<=(Ε n).length:=by unfold Ε;split<;>simp
theorem ziq(m:Mv):(Β m).length<=6:=by
 unfold Β
 split
 ·have h1:=zfe m.which.toNat
  have h2:=zfe m.at_.toNat;cases m.back<;>simp<;>omega
 ·simp
theorem zk6(sg:UInt8)(p q:Nat)(l:List UInt8)(h:l=[sg]++Ε p++[64]++Ε q):
  Ending.returned (.string ({ data:=#[sg] }++{ data:=(Ε p).toArray }++{ data:=#[64] }++{ data:=(Ε q).toArray }))=.returned (.string ⟨l.toArray⟩):=by
 show Ending.returned (.string (ByteArray.mk [sg].toArray++ByteArray.mk (Ε p).toArray++ByteArray.mk [64].toArray++ByteArray.mk (Ε q).toArray))=_
 rw[bn_,bn_,bn_,h]
theorem zmq(m:Mv)(w:World):
  c_ 93 #[.agg #[.int .i64 m.which,.bool m.back,.int .i64 m.at_]] w (.string ⟨(Β m).toArray⟩):=by
 obtain⟨p,b,q⟩:=m;have hb:Q_ (∀ o,Below w w (w.alloc o)):=H_ λo=>(B_ _ _).alloc (le_ _) _
 by_cases h1:0<=p/\p<=20
 ·by_cases h2:0<=q
  ·by_cases h3:q<=39
   ·(obtain⟨p,rfl⟩:∃ n:Nat,p=n:=⟨p.toNat,by omega⟩);(obtain⟨q,rfl⟩:∃ n:Nat,q=n:=⟨q.toNat,by omega⟩;have⟨hp,hq,hp',hq'⟩:p<100/\q<100/\p<=20/\q<=39:=by omega);have l1:=zfe p;have l2:=zfe q;have HT:=H_ (show Β ⟨p,b,q⟩=(if b then [45] else [43])++Ε p++[64]++Ε q by simp[Β,za5];omega);clear h1 h2 h3;cases b
    ·go_enter func93,ntmps93
     go_wp2
     go_quiet ((go_at_call 88;exact Calls.quiet_of_same (zl1 _ _ (by assumption))))
     go_wp2;go_ret;exact⟨zk6 43 p q _ HT.o,ai_ (hb.o _) _⟩
    ·go_enter func93,ntmps93
     go_wp2
     go_quiet ((go_at_call 88;exact Calls.quiet_of_same (zl1 _ _ (by assumption))))
     go_wp2;go_ret;exact⟨zk6 45 p q _ HT.o,ai_ (hb.o _) _⟩
   ·(have HT:=H_ (show Β ⟨p,b,q⟩=[] by simp[Β,za5];omega));go_enter func93,ntmps93
    go_wp2;go_ret;exact⟨zbw (a:=[]) (by rw[HT.o]),hb.o _⟩
  ·have HT:=H_ (show Β ⟨p,b,q⟩=[] by simp[Β,za5];omega)
   go_enter func93,ntmps93
   go_wp2;go_ret;exact⟨zbw (a:=[]) (by rw[HT.o]),hb.o _⟩
 ·have HT:=H_ (show Β ⟨p,b,q⟩=[] by simp[Β,za5];omega)
  by_cases h2:0<=p
  ·have h3:20<p:=by omega
   clear h1
   go_enter func93,ntmps93
   go_wp2;go_ret;exact⟨zbw (a:=[]) (by rw[HT.o]),hb.o _⟩
  ·clear h1
   go_enter func93,ntmps93
   go_wp2;go_ret;exact⟨zbw (a:=[]) (by rw[HT.o]),hb.o _⟩
def zjd:List UInt8->Option Nat
 | [a]=>if 48<=a.toNat/\a.toNat<=57 then some (a.toNat-48) else none
 | [a,b]=>if 48<=a.toNat/\a.toNat<=57/\48<=b.toNat/\b.toNat<=57 then some ((a.toNat-48)*10+(b.toNat-48)) else none
 | _=>none
theorem zyg:∀ n,n<100->zjd (Ε n)=some n:=by decide +kernel
def deMv:List UInt8->Option Mv
 | []=>none
 | c :: r=>
  match zjd (r.takeWhile (· !=64)),zjd ((r.dropWhile (· !=64)).drop 1) with
  | some p,some q=>some ⟨p,c==45,q⟩
  | _,_=>none
def zbg(s:List UInt8):Option Mv:=(deMv s).filter λm=>za5 m&&Β m==s
theorem zqx(h:za5 m=true):∃ p q:Nat,p<=20/\q<=39/\m=⟨p,m.back,q⟩:=by
 obtain⟨p,b,q⟩:=m;simp[za5]at h;exact⟨p.toNat,q.toNat,by omega,by omega,by simp;omega⟩
theorem zx7:∀ p,p<21->∀ q,q<40->∀ b:Bool,deMv (Β ⟨(p:Nat),b,(q:Nat)⟩)=some ⟨(p:Nat),b,(q:Nat)⟩:=by decide +kernel
theorem zzi(h:za5 m=true):deMv (Β m)=some m:=by
 obtain⟨p,q,hp,hq,e⟩:=zqx h;rw[e];exact zx7 p (by omega) q (by omega) _
theorem zle(s:List UInt8)(m:Mv):zbg s=some m↔za5 m=true/\Β m=s:=by
 unfold zbg;rw[d4_]
 constructor
 ·rintro⟨_,h⟩
  simpa using h
 ·rintro⟨h1,h2⟩
  subst h2;exact⟨zzi h1,by simp[h1]⟩
theorem zf3 {s:List UInt8}(h:∀ m,za5 m=true->Β m≠s):zbg s=none:=by
 cases he:zbg s with
 | none=>rfl
 | some m=>exact absurd ((zle s m).1 he).2 (h m ((zle s m).1 he).1)
theorem zs4(h:Β m≠[]):za5 m=true:=by
 cases hk:za5 m
 ·simp[Β,hk]at h
 ·rfl
theorem zwd(h:za5 m=true):Β m≠[]:=by
 simp[Β,h]
structure Env(w:World):Prop where
 most:∃ m,w.cell? (p_ 4 0)=some (.int .i64 m)
 syn:∃ a b,w.cell? (p_ 2 0)=some (.iface a b)
 rng:∃ a b,w.cell? (p_ 3 0)=some (.iface a b)
theorem Env.below {w':World}(h:Env w)(hb:Below w w w'):Env w':=by
 obtain⟨⟨m,h1⟩,⟨a,b,h2⟩,⟨c,d,h3⟩⟩:=h;exact⟨⟨m,(hb.cell (as_ w _ h1)).trans h1⟩,⟨a,b,(hb.cell (as_ w _ h2)).trans h2⟩,⟨c,d,(hb.cell (as_ w _ h3)).trans h3⟩⟩
theorem star : "*" ++ "errors.errorString" = "*errors.errorString" := by decide
theorem z1w (u : TypeId) (h : Tryz.prog.typeName? 3 u = some "*errors.errorString") : u = 229 :=
 typeName_ptr_named (nm := "errors.errorString") (by rw [star]; kernel_rfl) (by kernel_rfl) (by decide) u (by rw [star]; exact h)
theorem ztd(h:w.ShapedOpen prog):∃ m,w.cell? (p_ 4 0)=some (.int .i64 m):=
 cell_of_shapedOpen_int (zero:=#[(0:Int)]) (t:=3) h (av_ (by kernel_rfl)) (by kernel_rfl) rfl (by kernel_rfl) (by kernel_rfl) underlying3
theorem zq9 {n: String} {text: List UInt8} {r: List (String × DataW Unit)} {W: World} (h : laidMet prog ((n, .iface "*errors.errorString" (.ptr (.agg [.lit (.string text)]))) :: r) W) (hg : Tryz.prog.globalNamed n = some g)
  (ht:(Tryz.prog.globals[g]?).map (·.type)=some 106):∃ a b,W.cell? (p_ g 0)=some (.iface a b):=by
 obtain⟨a0,t0,hv0,hc0,ht0,_⟩:=laid_sentinel (g:=g) h hg ht underlying106 z1w underlying229 underlying231 rfl rfl underlying9 (by kernel_rfl) (by kernel_rfl);exact⟨_,_,by simpa using ed_ hg hv0 0⟩
def zcw(l:List UInt8):Option Int:=match Lib.atoiAll l with | .ok v=>some v | _=>none
theorem znk(l:List UInt8)(s:ByteArray)(hs:s=⟨l.toArray⟩)(v:Int)(w:World)(hl:l.length<=2097152)(h:zcw l=some v):
  c_ 85 #[.string s] w (.tuple #[.int .i64 v,.nilIface]):=by
 subst hs
 have h':Lib.atoiAll l=.ok v:=by
  unfold zcw at h
  split at h
  ·rename_i he;rw[he];simpa using h
  ·cases h
 refine(Tryz.strconv_Atoi_ok ⟨l.toArray⟩ (by show l.toArray.size<=_;simp;omega) v h' w).mono ?_;rintro e w' ⟨rfl,rfl|⟨t,rfl⟩⟩
 ·exact⟨rfl,B_ _ _⟩
 ·exact⟨rfl,Lib.bytesWorld_below _ _ _⟩
def RetNE(P:World->Prop)(e:Ending)(w':World):Prop:=∃ n t p,e=.returned (.tuple #[.int .i64 n,.iface t p])/\P w'
theorem znb(l:List UInt8)(s:ByteArray)(hs:s=⟨l.toArray⟩)(w:World)(hE:Env w)(hl:l.length<=2097152)(h:zcw l=none):
  Calls prog 85 #[.string s] w (RetNE λw'=>Below w w w'):=by
 subst hs;have hz:(⟨l.toArray⟩:ByteArray).size<=281474976710656:=by show l.toArray.size<=_;simp;omega
 cases h':Lib.atoiAll l with
 | ok v=>simp[zcw,h'] at h
 | «syntax»=>
  obtain⟨a,b,hv⟩:=hE.syn;refine(Tryz.strconv_Atoi_syntax ⟨l.toArray⟩ hz h' _ w hv (.inr ⟨a,b,rfl⟩)).mono ?_;rintro e w' ⟨N,rfl,_,_,hb⟩;exact⟨_,_,_,rfl,hb⟩
 | range=>
  obtain⟨a,b,hv⟩:=hE.rng;refine(Tryz.strconv_Atoi_range ⟨l.toArray⟩ hz h' _ w hv (.inr ⟨a,b,rfl⟩)).mono ?_;rintro e w' ⟨N,rfl,_,_,hb⟩;exact⟨_,_,_,rfl,hb⟩
theorem zua(l p:List UInt8)(s sep:ByteArray)(hs:s=⟨l.toArray⟩)(hp:sep=⟨p.toArray⟩)(w:World)(hE:Env w)(hl:l.length<=2097152):
  c_ 127 #[.string s,.string sep] w (.tuple #[.string ⟨(Lib.cut l p).1.toArray⟩,.string ⟨(Lib.cut l p).2.1.toArray⟩,.bool (Lib.cut l p).2.2]):=by
 subst hs hp;obtain⟨m,hm⟩:=hE.most;refine(Tryz.strings_Cut ⟨l.toArray⟩ ⟨p.toArray⟩ m w (by show l.toArray.size<_;simp;omega) hm).mono ?_;rintro e w' ⟨rfl,n,rfl⟩;exact⟨rfl,ai_ (B_ _ _) _⟩
def zai:Mv:=⟨0,false,0⟩
def zby(o:Option Mv):Value:=.tuple #[.agg #[.int .i64 (o.getD zai).which,.bool (o.getD zai).back,.int .i64 (o.getD zai).at_],.bool o.isSome]
theorem zys:∀ p,p<21->∀ q,q<40->Lib.cut (Ε p++[64]++Ε q) [64]=(Ε p,Ε q,true):=by decide +kernel
theorem zj8:∀ n,n<100->zcw (Ε n)=some (n:Int):=by decide +kernel
theorem znd(h:za5 m=true):∃ c r,Β m=c :: r/\zcw (Lib.cut r [64]).1=some m.which/\zcw (Lib.cut r [64]).2.1=some m.at_/\(c==45)=m.back:=by
 obtain⟨p,q,hp,hq,e⟩:=zqx h
 have ht:Β m=(if m.back then [45] else [43])++Ε p++[64]++Ε q:=by
  unfold Β;rw[x_ h,e];simp
 have hc:=zys p (by omega) q (by omega);refine⟨if m.back then 45 else 43,Ε p++[64]++Ε q,?_,?_,?_,?_⟩
 ·rw[ht];cases m.back<;>simp
 ·rw[hc];rw[e];exact zj8 p (by omega)
 ·rw[hc];rw[e];exact zj8 q (by omega)
 ·cases m.back<;>rfl
theorem ztt:zbg []=none:=zf3 λ_ h e=>zwd h e
theorem zug(h:zcw (Lib.cut r [64]).1=none):zbg (c :: r)=none:=
 zf3 λm hm e=>by
  obtain⟨c',r',h1,h2,_⟩:=znd hm;rw[e]at h1;injection h1 with _ h1;subst h1;rw[h]at h2;cases h2
theorem zwi(h:zcw (Lib.cut r [64]).2.1=none):zbg (c :: r)=none:=
 zf3 λm hm e=>by
  obtain⟨c',r',h1,_,h2,_⟩:=znd hm;rw[e]at h1;injection h1 with _ h1;subst h1;rw[h]at h2;cases h2
theorem zxf(h:Β m=c :: r):zbg (c :: r)=some m:=
 (zle _ _).2 ⟨zs4 (by rw[h];simp),h⟩
theorem rd_no {a b:Int}(h1:zcw (Lib.cut r [64]).1=some a)(h2:zcw (Lib.cut r [64]).2.1=some b)(h:Β ⟨a,c==45,b⟩≠c :: r):zbg (c :: r)=none:=
 zf3 λm hm e=>by
  obtain⟨c',r',g1,g2,g3,g4⟩:=znd hm;rw[e]at g1;injection g1 with g0 g1;subst g0 g1;rw[h1]at g2;rw[h2]at g3;injection g2 with g2;injection g3 with g3;obtain⟨p,b',q⟩:=m;simp only at g2 g3 g4;subst g2 g3 g4;exact h e
theorem z1i(l p:List UInt8):(Lib.cut l p).1.length<=l.length/\(Lib.cut l p).2.1.length<=l.length:=by
 unfold Lib.cut
 split<;>simp
 omega
theorem ext1(c:UInt8)(r:List UInt8):ByteArray.extract ⟨(c :: r).toArray⟩ 1 (r.length+1)=⟨r.toArray⟩:=by
 apply cd_;simp[bo_]
theorem idx0(c:UInt8)(r:List UInt8)(h:0<(ByteArray.mk (c :: r).toArray).size):(ByteArray.mk (c :: r).toArray)[0]'h=c:=rfl
theorem eq45(c:UInt8):((c.toNat:Int)==45)=(c==45):=by
 rw[cm_];simp only[bu_]
 constructor
 ·intro h;apply cw_.1;simpa using (by omega:c.toNat=45)
 ·intro h;subst h;rfl
theorem Below.set3 {a:World}(h:Below B a w)(hB:B<=g)(x y z:Value):Below B a (((w.setCell (p_ g 0) x).setCell (p_ g 1) y).setCell (p_ g 2) z):=
 ((h.setCell (p:=p_ g 0) hB x).setCell (p:=p_ g 1) hB y).setCell (p:=p_ g 2) hB z
def zg7:=@Below.set3
theorem z07(l:List UInt8)(s:ByteArray)(hs:s=⟨l.toArray⟩)(w:World)(hE:Env w)(hl:l.length<=2097152):
  c_ 83 #[.string s] w (zby (zbg l)):=by
 subst hs;have hb0:Q_ (∀ o,Below w w (w.alloc o)):=H_ λo=>(B_ _ _).alloc (le_ _) _
 cases l with
 | nil=>
  go_enter func83,ntmps83
  go_wp2;rw[ztt];refine d_ (v:=zby none) (by simp[results,results83,go_sem,zby,zai]) rfl ⟨rfl,hb0.o _⟩
 | cons c r=>
  have⟨w0,hw0⟩:=xa_ w #[(0:Int),.bool false,(0:Int)] 67;have HB:Q_ (Below w w w0):=by rw[hw0];exact hb0.o _ |> H_
  have K:Q_ (Blk w (.cells #[(0:Int),.bool false,(0:Int)] 67) w0):=by rw[hw0];exact H_ (κ w _)
  have HE:Q_ (Env w0):=by rw[hw0];exact H_ (hE.below (hb0.o _))
  obtain⟨hc1,hc2⟩:=z1i r [64];have hr:r.length<=2097151:=by simpa using hl
  clear hE hb0
  go_enter func83,ntmps83
  go_wp2_with fail
  simp only[<-hw0];clear hw0;refine(zua r [64] _ _ (ext1 c r) rfl _ HE.o (by omega)).mono ?_;rintro e w1 ⟨rfl,hb⟩;replace HE:=H_ (HE.o.below hb);replace K:=K.kb hb;replace HB:=HB.ts hb;clear hb;have⟨p1,hp1⟩:=ex_ ((Lib.cut r [64]).1);have⟨p2,hp2⟩:=ex_ ((Lib.cut r [64]).2.1);have⟨p3,hp3⟩:=ex_ ((Lib.cut r [64]).2.2);rw[<-hp1,<-hp2,<-hp3];rw[<-hp1]at hc1;rw[<-hp2]at hc2;have HP1:=H_ hp1;have HP2:=H_ hp2;clear hp1 hp2 hp3;cases ha:zcw p1 with
  | none=>
   have HR:=H_ (zug (c:=c) (r:=r) (by rw[<-HP1.o];exact ha));go_wp2_with fail
   refine(znb p1 _ rfl _ HE.o (by omega) ha).mono ?_;rintro e w2 ⟨n,t,p,rfl,hb⟩;replace K:=K.kb hb;replace HB:=HB.ts hb;clear hb ha;have⟨wz,hwz⟩:=x3_ w2 w (0:Int) (.bool false) (0:Int);have KZ:=K.o.set3 (0:Int) (.bool false) (0:Int);have HZ:=H_ (zg7 HB.o (le_ _) (0:Int) (.bool false) (0:Int));rw[<-hwz]at KZ HZ;obtain⟨q0,q1,q2⟩:=KZ.c3;clear KZ;have⟨c0,c1,c2⟩:=K.o.c3;have⟨f0,f1,f2⟩:=K.o.f3;go_wp2;simp only[<-hwz];clear hwz;rw[HR.o];refine d_ (v:=zby none) (by simp[results,results83,go_sem,q0,q1,q2,zby,zai]) rfl ⟨rfl,HZ.o⟩
  | some a=>
   go_wp2_with fail
   refine(znk p1 _ rfl a _ (by omega) ha).mono ?_;rintro e w2 ⟨rfl,hb⟩;replace HE:=H_ (HE.o.below hb);replace K:=K.kb hb;replace HB:=HB.ts hb;have HA:=H_ ha;clear hb ha;cases ha:zcw p2 with
   | none=>
    (have HR:=H_ (zwi (c:=c) (r:=r) (by rw[<-HP2.o];exact ha));go_wp2_with fail);refine(znb p2 _ rfl _ HE.o (by omega) ha).mono ?_;rintro e w3 ⟨n,t,p,rfl,hb⟩;replace K:=K.kb hb;replace HB:=HB.ts hb;clear hb ha;have⟨wz,hwz⟩:=x3_ w3 w (0:Int) (.bool false) (0:Int);have KZ:=K.o.set3 (0:Int) (.bool false) (0:Int);have HZ:=H_ (zg7 HB.o (le_ _) (0:Int) (.bool false) (0:Int));rw[<-hwz]at KZ HZ;obtain⟨q0,q1,q2⟩:=KZ.c3;clear KZ;have⟨c0,c1,c2⟩:=K.o.c3;have⟨f0,f1,f2⟩:=K.o.f3;go_wp2;simp only[<-hwz];clear hwz;rw[HR.o];refine d_ (v:=zby none) (by simp[results,results83,go_sem,q0,q1,q2,zby,zai]) rfl ⟨rfl,HZ.o⟩
   | some b=>
    go_wp2_with fail
    refine(znk p2 _ rfl b _ (by omega) ha).mono ?_;rintro e w3 ⟨rfl,hb⟩;replace HE:=H_ (HE.o.below hb);replace K:=K.kb hb;replace HB:=HB.ts hb;have HA2:=H_ ha;clear hb ha;go_wp2_with fail
    simp only[idx0,eq45];have⟨bk,hbk⟩:=ex_ (c==45);rw[<-hbk];have⟨w4,hw4⟩:=xa_ w3 #[.int .i64 a,.bool bk,.int .i64 b] 67;rw[<-hw4];have hb:Below w3 w3 w4:=by rw[hw4];exact(B_ _ _).alloc (le_ _) _
    (have K4:Q_ (Blk w3 (.cells #[.int .i64 a,.bool bk,.int .i64 b] 67) w4):=by rw[hw4];exact H_ (κ _ _));replace K:=K.kb hb;have hsz3:=HB.o.size;replace HB:=HB.ts hb;have HBK:=H_ hbk;clear hb hw4 hbk HE;refine(zmq ⟨a,bk,b⟩ _).mono ?_;rintro e w5 ⟨rfl,hb⟩;replace K:=K.kb hb;replace K4:=K4.kb hb;replace HB:=HB.ts hb;clear hb;have⟨d0,d1,d2⟩:=K4.o.c3;cases hq:(Β ⟨a,bk,b⟩==c :: r)
    ·(have HR:=H_ (rd_no (c:=c) (r:=r) (by rw[<-HP1.o];exact HA.o) (by rw[<-HP2.o];exact HA2.o) (by rw[<-HBK.o];simpa using hq)));have⟨wz,hwz⟩:=x3_ w5 w (0:Int) (.bool false) (0:Int);have KZ:=K.o.set3 (0:Int) (.bool false) (0:Int);have HZ:=H_ (zg7 HB.o (le_ _) (0:Int) (.bool false) (0:Int));rw[<-hwz]at KZ HZ;obtain⟨q0,q1,q2⟩:=KZ.c3;clear KZ;have⟨c0,c1,c2⟩:=K.o.c3;have⟨f0,f1,f2⟩:=K.o.f3;go_wp2;simp only[<-hwz];clear hwz;rw[HR.o];refine d_ (v:=zby none) (by simp[results,results83,go_sem,q0,q1,q2,zby,zai]) rfl ⟨rfl,HZ.o⟩
    ·(have HR:=H_ (zxf (c:=c) (r:=r) (m:=⟨a,bk,b⟩) (by simpa using hq)));have⟨wz,hwz⟩:=x3_ w5 w a (.bool bk) b;have KZ:=K.o.set3 a (.bool bk) b;have HZ:=H_ (zg7 HB.o (le_ _) a (.bool bk) b);rw[<-hwz]at KZ HZ;obtain⟨q0,q1,q2⟩:=KZ.c3;clear KZ;have⟨c0,c1,c2⟩:=K.o.c3;have⟨f0,f1,f2⟩:=K.o.f3;go_wp2;simp only[<-hwz];clear hwz;rw[HR.o];refine d_ (v:=zby (some ⟨a,bk,b⟩)) (by simp[results,results83,go_sem,q0,q1,q2,zby,zai]) rfl ⟨rfl,HZ.o⟩
structure Ac where
 kind:Int
 step:Mv
 count:Int
deriving DecidableEq
def zAc:Ac:=⟨0,⟨0,false,0⟩,0⟩
def encAc(a:Ac):List Value:=[.int .i64 a.kind,.int .i64 a.step.which,.bool a.step.back,.int .i64 a.step.at_,.int .i64 a.count]
def zMv(m:Mv):Bool:=(m.which==0)&&(!m.back)&&(m.at_==0)
def zaf(a:Ac):Bool:=if a.kind==0 then a.count==0 else if a.kind==1 then zMv a.step else if a.kind==2 then zMv a.step&&(a.count==0) else false
theorem zsv(a:Ac)(w:World):
  c_ 131 #[.agg #[.int .i64 a.kind,.int .i64 a.step.which,.bool a.step.back,.int .i64 a.step.at_,.int .i64 a.count]] w (.bool (zaf a)):=by
 obtain⟨k,⟨p,b,q⟩,c⟩:=a;have hb:Q_ (∀ o,Below w w (w.alloc o)):=H_ λo=>(B_ _ _).alloc (le_ _) _
 cases h0:k==0
 ·cases h1:k==1
  ·cases h2:k==2
   ·go_enter func131,ntmps131
    go_wp2;go_ret;exact⟨χ (by simp[zaf,h0,h1,h2]),hb.o _⟩
   ·cases h3:p==0
    ·go_enter func131,ntmps131
     go_wp2;go_ret;exact⟨χ (by simp[zaf,zMv,h0,h1,h2,h3]),hb.o _⟩
    ·cases b
     ·cases h4:q==0
      ·go_enter func131,ntmps131
       go_wp2;go_ret;exact⟨χ (by simp[zaf,zMv,h0,h1,h2,h3,h4]),hb.o _⟩
      ·go_enter func131,ntmps131
       go_wp2;go_ret;exact⟨χ (by simp[zaf,zMv,h0,h1,h2,h3,h4]),hb.o _⟩
     ·go_enter func131,ntmps131
      go_wp2;go_ret;exact⟨χ (by simp[zaf,zMv,h0,h1,h2,h3]),hb.o _⟩
  ·cases h3:p==0
   ·go_enter func131,ntmps131
    go_wp2;go_ret;exact⟨χ (by simp[zaf,zMv,h0,h1,h3]),hb.o _⟩
   ·cases b
    ·cases h4:q==0
     ·go_enter func131,ntmps131
      go_wp2;go_ret;exact⟨χ (by simp[zaf,zMv,h0,h1,h3,h4]),hb.o _⟩
     ·go_enter func131,ntmps131
      go_wp2;go_ret;exact⟨χ (by simp[zaf,zMv,h0,h1,h3,h4]),hb.o _⟩
    ·go_enter func131,ntmps131
     go_wp2;go_ret;exact⟨χ (by simp[zaf,zMv,h0,h1,h3]),hb.o _⟩
 ·go_enter func131,ntmps131
  go_wp2;go_ret;exact⟨χ (by simp[zaf,h0]),hb.o _⟩
theorem zpy(a:Ac)(w:World):
  c_ 100 #[.agg #[.int .i64 a.kind,.int .i64 a.step.which,.bool a.step.back,.int .i64 a.step.at_,.int .i64 a.count]] w (.bool (zaf a)):=by
 obtain⟨k,⟨p,b,q⟩,c⟩:=a;have hb:Q_ (∀ o,Below w w (w.alloc o)):=H_ λo=>(B_ _ _).alloc (le_ _) _
 cases h0:k==0
 ·cases h1:k==1
  ·cases h2:k==2
   ·go_enter func100,ntmps100
    go_wp2;go_ret;exact⟨χ (by simp[zaf,h0,h1,h2]),hb.o _⟩
   ·cases h3:p==0
    ·go_enter func100,ntmps100
     go_wp2;go_ret;exact⟨χ (by simp[zaf,zMv,h0,h1,h2,h3]),hb.o _⟩
    ·cases b
     ·cases h4:q==0
      ·go_enter func100,ntmps100
       go_wp2;go_ret;exact⟨χ (by simp[zaf,zMv,h0,h1,h2,h3,h4]),hb.o _⟩
      ·cases h5:c==0
       ·go_enter func100,ntmps100
        go_wp2;go_ret;exact⟨χ (by simp[zaf,zMv,h0,h1,h2,h3,h4,h5]),hb.o _⟩
       ·go_enter func100,ntmps100
        go_wp2;go_ret;exact⟨χ (by simp[zaf,zMv,h0,h1,h2,h3,h4,h5]),hb.o _⟩
     ·go_enter func100,ntmps100
      go_wp2;go_ret;exact⟨χ (by simp[zaf,zMv,h0,h1,h2,h3]),hb.o _⟩
  ·cases h3:p==0
   ·go_enter func100,ntmps100
    go_wp2;go_ret;exact⟨χ (by simp[zaf,zMv,h0,h1,h3]),hb.o _⟩
   ·cases b
    ·cases h4:q==0
     ·go_enter func100,ntmps100
      go_wp2;go_ret;exact⟨χ (by simp[zaf,zMv,h0,h1,h3,h4]),hb.o _⟩
     ·go_enter func100,ntmps100
      go_wp2;go_ret;exact⟨χ (by simp[zaf,zMv,h0,h1,h3,h4]),hb.o _⟩
    ·go_enter func100,ntmps100
     go_wp2;go_ret;exact⟨χ (by simp[zaf,zMv,h0,h1,h3]),hb.o _⟩
 ·go_enter func100,ntmps100
  go_wp2;go_ret;exact⟨χ (by simp[zaf,h0]),hb.o _⟩
theorem zlk(a:Nat):UInt8.ofNat ((48:Int)+(a:Int)).toNat=UInt8.ofNat (48+a):=by
 congr 1
theorem zne(n:Nat)(w:World)(h:n<100):
  c_ 104 #[.int .i64 n] w (.string ⟨(Ε n).toArray⟩):=by
 by_cases h1:n<10
 ·have HT:=H_ (show Ε n=[UInt8.ofNat ((48:Int)+(n:Int)).toNat] by rw[zlk];simp[Ε,h1])
  have hcv:=zjc (P:=prog) 40 9 5 underlying40 underlying5 underlying9 w [48+(n:Int)];simp only[I_,an_,df_,c3_,U_]at hcv
  go_enter func104,ntmps104
  go_wp2;go_ret;exact⟨zbw HT.o.symm,(B_ _ _).alloc (le_ _) _⟩
 ·obtain⟨a,ha,ha2⟩:∃ a:Nat,(n:Int)/10=a/\n/10=a:=⟨n/10,by omega,rfl⟩
  obtain⟨b,hb,hb2⟩:∃ b:Nat,(n:Int)%10=b/\n%10=b:=⟨n%10,by omega,rfl⟩;have⟨ba,bb⟩:a<=9/\b<=9:=by omega
  have HT:=H_ (show Ε n=[UInt8.ofNat ((48:Int)+(a:Int)).toNat,UInt8.ofNat ((48:Int)+(b:Int)).toNat] by rw[zlk,zlk];simp[Ε,h1,ha2,hb2]);have hcv:=zjc (P:=prog) 40 9 5 underlying40 underlying5 underlying9 w [48+(a:Int),48+(b:Int)];simp only[I_,an_,df_,c3_,U_,Nat.reduceAdd]at hcv;clear ha2 hb2
  go_enter func104,ntmps104
  go_wp2;go_ret;exact⟨zbw HT.o.symm,(B_ _ _).alloc (le_ _) _⟩
def MvS(w:World)(p q:Int)(w':World):Prop:=w'.cell? (p_ w 0)=some (.int .i64 p)/\w'.cell? (p_ w 2)=some (.int .i64 q)/\w<w'.heap.size/\Below w w w'
theorem MvS.start(w:World)(p q:Int)(b:Bool)(e:TypeId):MvS w p q (w.alloc (.cells #[.int .i64 p,.bool b,.int .i64 q] e)).drew:=by
 refine⟨?_,?_,?_,((B_ _ _).alloc (le_ _) _).drew⟩
 ·exact(κ w _).cell 0
 ·exact(κ w _).cell 2
 ·simp
theorem MvS.step {w1:World}(h:x.cell? (p_ w 0)=some (.int .i64 p)/\x.cell? (p_ w 2)=some (.int .i64 q)/\w<x.heap.size/\Below w w x)(hb:Below x x w1):MvS w p q w1:=
 ⟨(hb.cell h.2.2.1).trans h.1,(hb.cell h.2.2.1).trans h.2.1,T_ h.2.2.1 hb.size,h.2.2.2.trans (hb.mono (cr_ h.2.2.1))⟩
theorem MvS.bel(h:x.cell? (p_ w 0)=some (.int .i64 p)/\x.cell? (p_ w 2)=some (.int .i64 q)/\w<x.heap.size/\Below w w x):Below w w x:=h.2.2.2
theorem zka(m:Mv)(w:World):
  c_ 61 #[.agg #[.int .i64 m.which,.bool m.back,.int .i64 m.at_]] w (.string ⟨(Β m).toArray⟩):=by
 obtain⟨p,b,q⟩:=m;have hb:Q_ (∀ o,Below w w (w.alloc o)):=H_ λo=>(B_ _ _).alloc (le_ _) _
 cases h1:inB p 0 20
 ·have HT:=H_ (show Β ⟨p,b,q⟩=[] by simp[inB] at h1;simp[Β,za5];omega)
  go_enter func61,ntmps61
  go_wp2_with (go_at_call 101;refine(za0 _ _ _ _).mono ?_;rintro e w' ⟨rfl,rfl⟩)
  go_ret;exact⟨zbw (a:=[]) (by rw[HT.o]),hb.o _⟩
 ·cases h2:inB q 0 39
  ·have HT:=H_ (show Β ⟨p,b,q⟩=[] by simp[inB] at h2;simp[Β,za5];omega)
   go_enter func61,ntmps61
   go_wp2_with (go_at_call 101;refine(za0 _ _ _ _).mono ?_;rintro e w' ⟨rfl,rfl⟩)
   go_ret;exact⟨zbw (a:=[]) (by rw[HT.o]),hb.o _⟩
  ·have g1:0<=p/\p<=20:=by simpa [inB] using h1
   have g2:0<=q/\q<=39:=by simpa [inB] using h2
   obtain⟨p,rfl⟩:∃ n:Nat,p=n:=⟨p.toNat,by omega⟩;obtain⟨q,rfl⟩:∃ n:Nat,q=n:=⟨q.toNat,by omega⟩;have⟨hp,hq⟩:p<100/\q<100:=by omega
   have l1:=zfe p;have l2:=zfe q;have HT:=H_ (show Β ⟨p,b,q⟩=(if b then [45] else [43])++Ε p++[64]++Ε q by simp[Β,za5];omega);have⟨b1,b2,b3⟩:¬9223372036854775807<1+(Ε p).length/\¬9223372036854775807<1+(Ε p).length+1/\¬9223372036854775807<1+(Ε p).length+1+(Ε q).length:=by omega
   clear g1 g2;cases b
   ·go_enter func61,ntmps61
    go_wp2_with (first | (go_at_call 101;refine(za0 _ _ _ _).mono ?_;rintro e w' ⟨rfl,rfl⟩))
    go_region_held3 (λw'=>w'.cell? (p_ w 0)=some (.int .i64 p)/\w'.cell? (p_ w 2)=some (.int .i64 q)/\w<w'.heap.size/\Below w w w') (first | assumption | exact MvS.start _ _ _ _ _ | exact MvS.step (by assumption) (by assumption))
     (first | ((go_at_call 104;refine(zne _ _ (by assumption)).mono ?_;rintro e w1 ⟨rfl,hb1⟩)))
    go_wp2;go_ret;exact⟨zk6 43 p q _ HT.o,MvS.bel (by assumption)⟩
   ·go_enter func61,ntmps61
    go_wp2_with (first | (go_at_call 101;refine(za0 _ _ _ _).mono ?_;rintro e w' ⟨rfl,rfl⟩))
    go_region_held3 (λw'=>w'.cell? (p_ w 0)=some (.int .i64 p)/\w'.cell? (p_ w 2)=some (.int .i64 q)/\w<w'.heap.size/\Below w w w') (first | assumption | exact MvS.start _ _ _ _ _ | exact MvS.step (by assumption) (by assumption))
     (first | ((go_at_call 104;refine(zne _ _ (by assumption)).mono ?_;rintro e w1 ⟨rfl,hb1⟩)))
    go_wp2;go_ret;exact⟨zk6 45 p q _ HT.o,MvS.bel (by assumption)⟩
def zbh:List UInt8:=[98,97,99,107,32]
def zd2:List UInt8:=[115,105,109,112,108,101]
def zak(a:Ac):List UInt8:=if zaf a then (if a.kind==0 then Β a.step else if a.kind==1 then (if 0<=a.count/\a.count<=99 then zbh++Ε a.count.toNat else []) else zd2) else []
theorem zqz(p:Nat)(l:List UInt8)(h:l=zbh++Ε p):
  Ending.returned (.string ({ data:=#[98,97,99,107,32] }++{ data:=(Ε p).toArray }))=.returned (.string ⟨l.toArray⟩):=by
 show Ending.returned (.string (ByteArray.mk [98,97,99,107,32].toArray++ByteArray.mk (Ε p).toArray))=_
 rw[bn_,h];rfl
def zco(o:Option Ac):Value:=.tuple #[.agg #[.int .i64 (o.getD zAc).kind,.int .i64 (o.getD zAc).step.which,.bool (o.getD zAc).step.back,.int .i64 (o.getD zAc).step.at_,.int .i64 (o.getD zAc).count],.bool o.isSome]
def zdf(l:List UInt8):Option Nat:=(zjd (l.drop 5)).filter λn=>decide (n<100)&&(zbh++Ε n==l)
def zbb(l:List UInt8):Option Ac:=match zbg l with
 | some m=>some ⟨0,m,0⟩
 | none=>if l==zd2 then some ⟨2,zai,0⟩ else (zdf l).map λn=>⟨1,zai,n⟩
theorem zld(l:List UInt8)(n:Nat):zdf l=some n↔n<100/\zbh++Ε n=l:=by
 unfold zdf;rw[d4_]
 constructor
 ·rintro⟨_,h⟩
  simpa using h
 ·rintro⟨h1,h2⟩
  subst h2;refine⟨?_,by simp[h1]⟩;rw[List.drop_left' (by rfl)];exact zyg n h1
theorem zix(h:∀ n,n<100->zbh++Ε n≠l):zdf l=none:=by
 cases he:zdf l with
 | none=>rfl
 | some n=>exact absurd ((zld l n).1 he).2 (h n ((zld l n).1 he).1)
theorem zl8:∀ n,n<100->Lib.hasPrefix (zbh++Ε n) zbh=true/\Lib.trimPrefix (zbh++Ε n) zbh=Ε n:=by decide +kernel
theorem zzk(h:Lib.hasPrefix l zbh=false):zdf l=none:=
 zix λn hn e=>by have:=(zl8 n hn).1;rw[e,h] at this;cases this
theorem zz0(h:zcw (Lib.trimPrefix l zbh)=none):zdf l=none:=
 zix λn hn e=>by have:=(zl8 n hn).2;rw[e] at this;rw[this,zj8 n hn] at h;cases h
theorem zmk(n:Int):zak ⟨1,zai,n⟩=if 0<=n/\n<=99 then zbh++Ε n.toNat else []:=by rfl
theorem z1n(h:zcw (Lib.trimPrefix l zbh)=some n)(hne:zak ⟨1,zai,n⟩≠l):zdf l=none:=
 zix λk hk e=>by
  have:=(zl8 k hk).2;rw[e]at this;rw[this,zj8 k hk]at h;injection h with h;subst h;rw[zmk,x_ (by omega)]at hne;exact hne e
theorem zqo(h:zak ⟨1,zai,n⟩=l)(hl:l≠[]):0<=n/\n<=99/\zdf l=some n.toNat:=by
 rw[zmk]at h
 split at h
 ·rename_i hn
  exact⟨hn.1,hn.2,(zld l _).2 ⟨by omega,h⟩⟩
 ·exact absurd h.symm hl
theorem zqw(h:Β m=c :: r):c=43\/c=45:=by
 have hk:za5 m=true:=zs4 (by rw[h];simp);unfold Β at h;rw[x_ hk]at h;cases hb:m.back<;>simp[hb] at h<;>simp[<-h.1]
theorem zxx:zbg zd2=none:=zf3 λm hm e=>by
 rcases zqw e with h|h<;>cases h
theorem z0j {n:Nat}(h:zbh++Ε n=l):zbg l=none:=zf3 λm hm e=>by
 rw[<-h]at e;rcases zqw (c:=98) (r:=[97,99,107,32]++Ε n) e with h|h<;>cases h
theorem zpp(h:zbg l=some m):zbb l=some ⟨0,m,0⟩:=by simp[zbb,h]
theorem zoj(h:l=zd2):zbb l=some ⟨2,zai,0⟩:=by subst h;simp[zbb,zxx]
theorem zj6(h1:zbg l=none)(h2:(l==zd2)=false)(h3:zdf l=none):zbb l=none:=by simp[zbb,h1,h2,h3]
theorem zpk {n:Nat}(h3:zdf l=some n):zbb l=some ⟨1,zai,n⟩:=by
 have h:=((zld l n).1 h3).2;have h1:=z0j h
 have h2:(l==zd2)=false:=by
  rw[<-h];rfl
 simp[zbb,h1,h2,h3]
theorem Blk.set5 {e:TypeId} {x0 x1 x2 x3 x4:Value}(h:Blk g (.cells #[x0,x1,x2,x3,x4] e (0,0)) w)(a b c d f:Value):
  Blk g (.cells #[a,b,c,d,f] e (0,0)) (((((w.setCell (p_ g 0) a).setCell (p_ g 1) b).setCell (p_ g 2) c).setCell (p_ g 3) d).setCell (p_ g 4) f):=by
 have h':w.heap[g]?=_:=h
 show (((((w.setCell (p_ g 0) a).setCell (p_ g 1) b).setCell (p_ g 2) c).setCell (p_ g 3) d).setCell (p_ g 4) f).heap[g]?=_
 simp[World.setCell,V_,h']
theorem Below.set5 {a:World}(h:Below B a w)(hB:B<=g)(x y z u v:Value):Below B a (((((w.setCell (p_ g 0) x).setCell (p_ g 1) y).setCell (p_ g 2) z).setCell (p_ g 3) u).setCell (p_ g 4) v):=
 ((((h.setCell (p:=p_ g 0) hB x).setCell (p:=p_ g 1) hB y).setCell (p:=p_ g 2) hB z).setCell (p:=p_ g 3) hB u).setCell (p:=p_ g 4) hB v
def zeu:=@Below.set5
theorem zwf(m:Mv):zby (some m)=.tuple #[.agg #[.int .i64 m.which,.bool m.back,.int .i64 m.at_],.bool true]:=rfl
theorem zt9:zby none=.tuple #[.agg #[(0:Int),.bool false,(0:Int)],.bool false]:=rfl
theorem zhd:zco none=.tuple #[.agg #[(0:Int),(0:Int),.bool false,(0:Int),(0:Int)],.bool false]:=rfl
section
variable {w:World} {ops:Array Oper} {rest:List Oper} {o:Oper} {a:Act} {Q:Exit->Act->World->Prop}
theorem zxy(w0:World)(hgd:o.guard=none)(s x:Operand)
  (ho:o.op=.call { callee:=.builtin .append,args:=#[s,x],argTypes:=#[22,22] })
  {lo hi:Nat} {v:Value} {xs:List Int} (hs:a.eval s=v) (hown:γ lo hi 3 w0 v xs) (hpos:0<xs.length) (y:Int)
  (hx:a.eval x=.slice (q_ w0 0) 1 1) (hw:w=w0.alloc (.cells #[.int .i64 y] 3)) (hn:xs.length<=1000000) (hlo:lo<=w0)
  (h:∀ v' w',SlI lo w'.heap.size w' v' (xs++[y])->SlI lo w'.heap.size w' v xs->β lo hi w0 w'->wpList prog ops Q rest (a.put o.dst v') w'):wpList prog ops Q (o :: rest) a w:=by
 subst hw;obtain⟨i,hi0,hz,hsize,hb⟩:=b8_ ω;obtain⟨hrow,hlt⟩:=hown;have hlen:(δ xs).length=xs.length:=zc1 xs;rcases hrow.2 with⟨_,hn0⟩|⟨g,cap,cur,rfl,hbg,hg,hnc,hcm,hcs,htake⟩
 ·omega
 have hgl:=hlt g rfl;have hgs:=(L_.1 hg).1;have hba:Below w0 w0 (w0.alloc (.cells #[.int .i64 y] 3)):=(B_ _ _).alloc (le_ _) _;have hgA:(w0.alloc (.cells #[.int .i64 y] 3)).heap[g]?=some (.cells cur 3 (0,0)):=(hba.block g hgs).trans hg
 have hold:∀ j,j<xs.length->(w0.alloc (.cells #[.int .i64 y] 3)).cell? (p_ g j)=(δ xs)[j]?:=by
  intro j hj;rw[dt_ _ g j cur 3 (0,0) hgA,<-htake,bb_,x_ (by omega)];simp
 have hcur:cur.size=cap:=by simpa using hcs
 refine wpList_append_arg (w0.alloc (.cells #[.int .i64 y] 3)) hgd s x 22 ho 3 i (0:Int) 1 8 underlying22 hi0 hz hsize hb (by decide) (by decide) g 0 xs.length cap (δ xs) hs (by omega) ?_ (p_ w0 0) 1 1 [.int .i64 y] hx rfl ?_ (by intro u hu;simp at hu;subst hu;rfl) ?_ (by unfold maxLen;omega) (by omega) ?_ ?_
 ·intro j u hj
  rw[U_,hold j (by rw[<-hlen];exact(a3_.1 hj).1)];exact hj
 ·intro j u hj
  match j,hj with
  | 0,hj=>
   simp at hj;subst hj;rw[show (p_ w0 0:Addr).add 0=p_ w0 0 from rfl,dt_ _ w0 0 #[.int .i64 y] 3 (0,0) (show Blk w0 _ _ from κ w0 _)];rfl
 ·intro hroom j hj
  simp at hj;subst hj;have hc:xs.length<cur.size:=by omega
  refine⟨?_,?_⟩
  ·rw[dt_ _ g _ cur 3 (0,0) hgA]
   simp[hc]
  ·simp[World.frozen?,hgA]
 ·intro hroom
  have hc:xs.length<cur.size:=by omega
  have hin:=World.cell?_setCells_in g [.int .i64 y] (0+xs.length*1) (w0.alloc (.cells #[.int .i64 y] 3)) (by
   intro j hj;simp at hj;subst hj;rw[dt_ _ g _ cur 3 (0,0) hgA];simp[hc]) 0 (by simp)
  have hsz:((w0.alloc (.cells #[.int .i64 y] 3)).setCells g (0+xs.length*1) [.int .i64 y]).heap.size=w0.heap.size+1:=by simp[World.setCells]
  have hout:∀ j,j<xs.length->((w0.alloc (.cells #[.int .i64 y] 3)).setCells g (0+xs.length*1) [.int .i64 y]).cell? (p_ g j)=(δ xs)[j]?:=by
   intro j hj;rw[World.cell?_setCells_out g _ _ _ _ (λ_ _=>.inl (by simp;omega))];exact hold j hj
  refine h _ _ ?_ ?_ ?_
  ·refine⟨_,cap,by simp,by simp;omega,hcm,by simp[δ],(by intro h;cases h),λj hj=>⟨g,0,rfl,hbg,by omega,by omega,?_⟩⟩
   rw[zc1]at hj;simp only[n_,cs_]at hj;rw[show (0+j)=j from U_ j];by_cases hj2:j<xs.length
   ·rw[hout j hj2,zaa,d5_ (by rw[hlen];exact hj2)]
   ·(obtain rfl:j=xs.length:=by omega);have h2:=hin;simp only[U_,Nat.mul_one,cj_]at h2 ⊢;rw[h2,zaa,a2_ (by rw[hlen];exact le_ _)];simp[δ]
  ·refine⟨_,cap,rfl,hnc,hcm,by simp[δ],(by intro h;cases h),λj hj=>⟨g,0,rfl,hbg,by omega,by omega,?_⟩⟩
   rw[zc1]at hj;rw[show (0+j)=j from U_ j];exact hout j hj
  ·have h1:β lo hi w0 (w0.alloc (.cells #[.int .i64 y] 3)):=β.of_below ((B_ _ _).alloc (le_ _) _) (le_ _)
   exact h1.setCell (p:=p_ g _) hbg hgl _
 ·intro hgrow v' w' hrow' hgr
  have hOwn:Own 1 lo w' 3 w' v' (xs.length+1) (δ xs++[.int .i64 y]):=by
   refine za3 (zfs hrow') ?_ (le_ _);simp;omega
  refine h _ _ ?_ ?_ ?_
  ·have h2:=hOwn.sl
   have e1:(xs++[y]).length=xs.length+1:=by simp
   have e2:δ (xs++[y])=δ xs++[.int .i64 y]:=by simp[δ]
   unfold SlI;rw[e1,e2];exact h2
  ·refine⟨_,cap,rfl,hnc,hcm,by simp[δ],(by intro h;cases h),λj hj=>⟨g,0,rfl,hbg,?_,?_,?_⟩⟩
   ·(have:=hgr.size);simp at this;omega
   ·(have:=hgr.size);simp at this;omega
   ·rw[zc1]at hj
    rw[show (0+j)=j from U_ j,ag_ (hgr.block g (by simp;omega) (by simp))];exact hold j hj
  ·have h1:β lo hi w0 (w0.alloc (.cells #[.int .i64 y] 3)):=β.of_below ((B_ _ _).alloc (le_ _) _) (le_ _)
   exact h1.trans (zb1 hgr (λk hk=>by cases hk))
end
section
variable {P:Program} {w:World} {ops:Array Oper} {rest:List Oper} {o:Oper} {a:Act} {Q:Exit->Act->World->Prop}
theorem zhw(w0:World)(hgd:o.guard=none)(s x:Operand)(t:TypeId)
  (ho:o.op=.call { callee:=.builtin .append,args:=#[s,x],argTypes:=#[t,t] })
  (e:TypeId) (z:Value) (sz bytes:Nat) (ht:P.underlying t=some (.slice e)) (hinfo:(P.info? e).map (λi=>(i.zero,i.size,i.bytes))=some (some z,sz,bytes))
  (hzs:z.cells.size=sz) (hsz:0<sz) (hby:bytes<=64)
  {lo hi n:Nat} {v:Value} {xs:List Value} (hs:a.eval s=v) (hown:Own sz lo hi e w0 v n xs)
  (m:Nat) (ys:List Value) (hx:a.eval x=.slice (q_ w0 0) m m) (hlen:ys.length=m*sz) (h1:∀ u∈ys,u.oneCell'=true) (hw:w=w0.alloc (.cells ys.toArray e))
  (hn:n+m<=1073741824) (hlo:lo<=w0)
  (h:∀ v' w' lo' hi',Own sz lo' hi' e w' v' (n+m) (xs++ys)->(lo'=lo/\hi'=hi\/w0.heap.size<=lo'/\lo' < hi'/\hi'<=w'.heap.size)->β lo hi w0 w'->wpList P ops Q rest (a.put o.dst v') w'):wpList P ops Q (o :: rest) a w:=by
 subst hw;obtain⟨i,hi0,hz,hsize,hb⟩:=b8_ hinfo;have hl:=(ς sz e w0 ys m (by omega) hlen).sl;obtain⟨ao,c,he,hmc,hcm,hlen',hnone,hc⟩:=hl;injection he with he1 he2 he3;subst he1 he3;have hown':=hown.alloc (.cells ys.toArray e);have hmx:(n+m)*bytes<=140737488355328:=J_ (bk_ hn hby) (by decide);refine wpList_append_own_at _ hgd s x t ho lo e i z sz bytes ht hi0 hz hsize hb hzs hsz v n xs hs hown'.1 (p_ w0 0) m m ys hx hlen ?_ h1 (by unfold maxLen;omega) hmx (by simp;omega) ?_
 ·intro j u hu
  have hj:=(a3_.1 hu).1;obtain⟨b,off,e1,_,_,_,e2⟩:=hc j hj;injection e1 with e1;rw[e1,a5_,e2,hu]
 ·intro v' w' h2 h3 _ h5
  have hout:β lo hi w0 w':=(β.of_below ((B_ _ _).alloc (le_ _) _) (le_ _)).trans (zb1 h3 hown'.lt);rcases h2.2 with⟨hv,hx0⟩|⟨g,cap,cur,hv,hbg,hg,r1,r2,r3,r4⟩
  ·exact h v' w' lo hi ⟨h2,λk hk=>by rw[hv] at hk;simp[Value.ownBlock] at hk⟩ (.inl ⟨rfl,rfl⟩) hout
  ·have hgs:=(L_.1 hg).1
   have hvb:v'.ownBlock=some g:=by rw[hv];rfl
   rcases h5 with h5|h5
   ·exact h v' w' lo hi ⟨h2,λk hk=>hown'.2 k (by rw[<-h5];exact hk)⟩ (.inl ⟨rfl,rfl⟩) hout
   ·rw[hvb]at h5
    injection h5 with h5;have h6:w0.heap.size<=g:=by rw[h5];simp
    refine h v' w' g (g+1) ⟨⟨h2.1,.inr ⟨g,cap,cur,hv,le_ _,hg,r1,r2,r3,r4⟩⟩,λk hk=>?_⟩ (.inr ⟨h6,D_ g,hgs⟩) hout;rw[hvb]at hk;injection hk with hk;omega
end
abbrev z0r(g c:Nat)(w:World)(most:Nat):Ending->World->Prop:=zo6 λva vb w'=>∃ xs ys:List Int,SlI w w' w' va xs/\SlI w w' w' vb ys/\xs.length<=most/\ys.length<=most/\β g (g+1) w w'/\Rd g w' c
theorem zxh(g c:Nat)(w:World)(h:Rd g w c)(hc:c<=10000000):
  Calls prog 123 #[.pointer (q_ g 0)] w (z0r g (c+1200) w 44):=by
 have hg:=h.lt;have HR:=H_ h;have HO:=H_ (β.refl g (g+1) w);clear h
 go_enter func123,ntmps123
 go_wp2_with fail
 refine(zoq g _ 14 _ HR.o (by omega) (by omega)).mono ?_;rintro e w1 ⟨v_OE,rfl,es,o_,l_es,h_,r_⟩;have hs1:=h_.size;replace HO:=H_ (HO.o.trans h_);replace HR:=H_ r_;clear h_ r_;have OE:=H_ o_;clear o_;obtain⟨a_OE,c_OE,rfl,_,_⟩:=π OE.o.sl;go_wp2_with fail
 refine(zfy g _ _ HR.o (by omega)).mono ?_;rintro e w2 ⟨v_OF,rfl,fs,o_,l_fs,h_,r_⟩;have hs2:=h_.size;replace OE:=H_ (OE.o.outside h_ (.inr (by omega)));replace HO:=H_ (HO.o.trans h_);replace HR:=H_ r_;clear h_ r_;have OF:=H_ o_;clear o_;obtain⟨a_OF,c_OF,rfl,_,_⟩:=π OF.o.sl;go_wp2_with fail
 refine(zfy g _ _ HR.o (by omega)).mono ?_;rintro e w3 ⟨v_OG,rfl,gs,o_,l_gs,h_,r_⟩;have hs3:=h_.size;replace OE:=H_ (OE.o.outside h_ (.inr (by omega)));replace OF:=H_ (OF.o.outside h_ (.inr (by omega)));replace HO:=H_ (HO.o.trans h_);replace HR:=H_ r_;clear h_ r_;have OG:=H_ o_;clear o_;obtain⟨a_OG,c_OG,rfl,_,_⟩:=π OG.o.sl;cases hk:ν es
 ·go_wp2_with (go_at_call 64;refine(zag _ _ _ es _ OE.o.sl (by omega)).mono ?_;rintro e w' ⟨rfl,rfl⟩)
  go_ret2
  exact⟨_,_,rfl,es,fs,OE.o.sl.wide (by omega) (by omega),OF.o.sl.wide (by omega) (by omega),by omega,by omega,HO.o,HR.o.mono (by omega)⟩
 by_cases h9:9<es.length
 ·go_wp2_with (go_at_call 64;refine(zag _ _ _ es _ OE.o.sl (by omega)).mono ?_;rintro e w' ⟨rfl,rfl⟩)
  go_ret2
  exact⟨_,_,rfl,es,fs,OE.o.sl.wide (by omega) (by omega),OF.o.sl.wide (by omega) (by omega),by omega,by omega,HO.o,HR.o.mono (by omega)⟩
 have HK:=H_ hk;go_wp2_with fail
 refine(zag _ _ _ es _ OE.o.sl (by omega)).mono ?_;rintro e _ ⟨rfl,rfl⟩;rw[HK.o];clear hk;have h0:Q_ (Own 1 w3 (w3+1) 3 (w3.alloc (.cells (δ []).toArray 3)) (.slice (q_ w3 0) 0 0) 0 (δ [])):=H_ (ς 1 3 w3 (δ []) 0 (by omega) rfl);have⟨w4,hw_⟩:=xa_ w3 (δ []).toArray 3;obtain⟨h_,K_,hs4⟩:=Η hw_;rw[<-hw_]at h0;replace OE:=H_ (OE.o.below h_ (by omega));replace OF:=H_ (OF.o.below h_ (by omega));replace OG:=H_ (OG.o.below h_ (by omega));replace HO:=H_ (HO.o.below h_ (by omega));replace HR:=H_ (HR.o.below h_ (by omega));have HWZ:=H_ (show w3.alloc (.cells #[] 3)=w4 from hw_.symm);clear hw_ h_ K_;go_wp2_with (at_builtin;go_loud (rw[HWZ.o];refine Μ rfl _ _ 22 rfl 3 (0:Int) 1 8 underlying22 ω rfl (by decide) (by decide) rfl h0.o rfl OE.o.sl (Ι _) (by omega) (by omega) ?_))
 intro v_ w5 o_ _ h_ _;have hs5:=h_.size;replace OE:=H_ (OE.o.outside h_ (by omega));replace OF:=H_ (OF.o.outside h_ (by omega));replace OG:=H_ (OG.o.outside h_ (by omega));replace HO:=H_ (HO.o.fresh h_ (by omega));replace HR:=H_ (HR.o.outside h_ (by omega));have O0:Q_ (γ w3 w5 3 w5 v_ es):=H_ (by unfold γ;simpa [δ] using o_);obtain⟨a_O0,c_O0,rfl,_⟩:=θ O0.o;clear o_ h_ h0 HWZ;have hown:=O0.o;go_wp2_with (at_builtin;refine zap w5 rfl _ _ 22 rfl 3 (0:Int) 1 8 underlying22 ω rfl (by decide) (by decide) rfl hown 1 (δ [21]) rfl rfl (Ι _) rfl (by omega) (by omega) ?_)
 intro v_ w6 o_ h_ _;have hs6:=h_.size;replace OE:=H_ (OE.o.outside h_ (by omega));replace OF:=H_ (OF.o.outside h_ (by omega));replace OG:=H_ (OG.o.outside h_ (by omega));replace HO:=H_ (HO.o.fresh h_ (by omega));replace HR:=H_ (HR.o.outside h_ (by omega));have OS:Q_ (γ _ w6 3 w6 v_ (es++[21])):=H_ (by unfold γ;simpa [δ] using o_);have l_ss:(es++[21]).length=es.length+1:=by simp
 generalize es++[21]=ss at OS l_ss;obtain⟨a_OS,c_OS,rfl,_⟩:=θ OS.o;have la_ss:=G_ l_ss;have lb_ss:=G_ l_ss.symm;clear l_ss;clear hown o_ h_;clear O0;go_wp2_with fail
 refine(Δ g _ _ _ HR.o (by omega)).mono ?_;rintro e w7 ⟨q,rfl,i_,h_,r_⟩;obtain⟨i1_q,i2_q⟩:=i_.lt (by omega);clear i_;have hs7:=h_.size;replace OE:=H_ (OE.o.outside h_ (.inr (by omega)));replace OF:=H_ (OF.o.outside h_ (.inr (by omega)));replace OG:=H_ (OG.o.outside h_ (.inr (by omega)));replace OS:=H_ (OS.o.outside h_ (.inr (by omega)));replace HO:=H_ (HO.o.trans h_);replace HR:=H_ r_;clear h_ r_;have hq:q=0\/q=1\/q=2\/q=3\/q=4\/q=5\/q=6\/q=7\/q=8:=by omega
 clear i1_q i2_q;rcases hq with rfl|rfl|rfl|rfl|rfl|rfl|rfl|rfl|rfl
 ·skip
  go_wp2_with fail
  have⟨w8,hw_⟩:=xa_ w7 #[(15:Int)] 3;obtain⟨h_,K_,hs8⟩:=Η hw_;have HL_:=H_ hw_;simp only[<-hw_];clear hw_;replace OE:=H_ (OE.o.below h_ (by omega));replace OF:=H_ (OF.o.below h_ (by omega));replace OG:=H_ (OG.o.below h_ (by omega));replace OS:=H_ (OS.o.below h_ (by omega));replace HO:=H_ (HO.o.below h_ (by omega));replace HR:=H_ (HR.o.below h_ (by omega));clear h_;have OL:Q_ (γ w7 w8 3 w8 (.slice (q_ w7 0) 1 1) [15]):=H_ (by rw[HL_.o];exact zb0 _ _);clear HL_ K_
  skip
  refine(zaj _ _ _ _ _ _ es ss 19 _ OE.o.sl OS.o.sl (by omega) (by omega) (by first | omega | (simp;omega))).mono ?_;rintro e w9 ⟨v_J1,rfl,h_,o_⟩;have hs9:=h_.size;replace OE:=H_ (OE.o.below h_ (by omega));replace OF:=H_ (OF.o.below h_ (by omega));replace OG:=H_ (OG.o.below h_ (by omega));replace OS:=H_ (OS.o.below h_ (by omega));replace OL:=H_ (OL.o.below h_ (by omega));replace HO:=H_ (HO.o.below h_ (by omega));replace HR:=H_ (HR.o.below h_ (by omega));clear h_;have l_j1:(es++ss++[19]).length=es.length+ss.length+1:=by simp;try omega
  generalize es++ss++[19]=j1 at o_ l_j1;have la_j1:=G_ l_j1;have lb_j1:=G_ l_j1.symm;clear l_j1;have J1:=H_ o_;obtain⟨a_J1,c_J1,rfl,_⟩:=θ o_;clear o_;go_wp2_with fail
  refine(zaj _ _ _ _ _ _ [15] j1 20 _ OL.o.sl J1.o.sl (by omega) (by omega) (by first | omega | (simp;omega))).mono ?_;rintro e w10 ⟨v_J2,rfl,h_,o_⟩;have hs10:=h_.size;replace OE:=H_ (OE.o.below h_ (by omega));replace OF:=H_ (OF.o.below h_ (by omega));replace OG:=H_ (OG.o.below h_ (by omega));replace OS:=H_ (OS.o.below h_ (by omega));replace OL:=H_ (OL.o.below h_ (by omega));replace J1:=H_ (J1.o.below h_ (by omega));replace HO:=H_ (HO.o.below h_ (by omega));replace HR:=H_ (HR.o.below h_ (by omega));clear h_;have l_j2:([15]++j1++[20]).length=1+j1.length+1:=by simp;try omega
  generalize [15]++j1++[20]=j2 at o_ l_j2;have la_j2:=G_ l_j2;have lb_j2:=G_ l_j2.symm;clear l_j2;have J2:=H_ o_;obtain⟨a_J2,c_J2,rfl,_⟩:=θ o_;clear o_;go_wp2
  go_ret2
  exact⟨_,_,rfl,ss,j2,(OS.o.sl).wide (by omega) (by omega),(J2.o.sl).wide (by omega) (by omega),by omega,by omega,HO.o,HR.o.mono (by omega)⟩
 ·skip
  go_wp2_with fail
  refine(zaj _ _ _ _ _ _ es fs 20 _ OE.o.sl OF.o.sl (by omega) (by omega) (by first | omega | (simp;omega))).mono ?_;rintro e w8 ⟨v_J1,rfl,h_,o_⟩;have hs8:=h_.size;replace OE:=H_ (OE.o.below h_ (by omega));replace OF:=H_ (OF.o.below h_ (by omega));replace OG:=H_ (OG.o.below h_ (by omega));replace OS:=H_ (OS.o.below h_ (by omega));replace HO:=H_ (HO.o.below h_ (by omega));replace HR:=H_ (HR.o.below h_ (by omega));clear h_;have l_j1:(es++fs++[20]).length=es.length+fs.length+1:=by simp;try omega
  generalize es++fs++[20]=j1 at o_ l_j1;have la_j1:=G_ l_j1;have lb_j1:=G_ l_j1.symm;clear l_j1;have J1:=H_ o_;obtain⟨a_J1,c_J1,rfl,_⟩:=θ o_;clear o_;have hown:=J1.o;go_wp2_with (at_builtin;refine zap w8 rfl _ _ 22 rfl 3 (0:Int) 1 8 underlying22 ω rfl (by decide) (by decide) rfl hown 1 (δ [21]) rfl rfl (Ι _) rfl (by omega) (by omega) ?_)
  intro v_ w9 o_ h_ _;have hs9:=h_.size;replace OE:=H_ (OE.o.outside h_ (by omega));replace OF:=H_ (OF.o.outside h_ (by omega));replace OG:=H_ (OG.o.outside h_ (by omega));replace OS:=H_ (OS.o.outside h_ (by omega));replace HO:=H_ (HO.o.fresh h_ (by omega));replace HR:=H_ (HR.o.outside h_ (by omega));have K1:Q_ (γ _ w9 3 w9 v_ (j1++[21])):=H_ (by unfold γ;simpa [δ] using o_);have l_k1:(j1++[21]).length=j1.length+1:=by simp
  generalize j1++[21]=k1 at K1 l_k1;obtain⟨a_K1,c_K1,rfl,_⟩:=θ K1.o;have la_k1:=G_ l_k1;have lb_k1:=G_ l_k1.symm;clear l_k1;clear hown o_ h_;clear J1;go_wp2_with fail
  refine(zaj _ _ _ _ _ _ fs ss 19 _ OF.o.sl OS.o.sl (by omega) (by omega) (by first | omega | (simp;omega))).mono ?_;rintro e w10 ⟨v_J2,rfl,h_,o_⟩;have hs10:=h_.size;replace OE:=H_ (OE.o.below h_ (by omega));replace OF:=H_ (OF.o.below h_ (by omega));replace OG:=H_ (OG.o.below h_ (by omega));replace OS:=H_ (OS.o.below h_ (by omega));replace K1:=H_ (K1.o.below h_ (by omega));replace HO:=H_ (HO.o.below h_ (by omega));replace HR:=H_ (HR.o.below h_ (by omega));clear h_;have l_j2:(fs++ss++[19]).length=fs.length+ss.length+1:=by simp;try omega
  generalize fs++ss++[19]=j2 at o_ l_j2;have la_j2:=G_ l_j2;have lb_j2:=G_ l_j2.symm;clear l_j2;have J2:=H_ o_;obtain⟨a_J2,c_J2,rfl,_⟩:=θ o_;clear o_;have hown:=J2.o;go_wp2_with (at_builtin;refine zap w10 rfl _ _ 22 rfl 3 (0:Int) 1 8 underlying22 ω rfl (by decide) (by decide) rfl hown 1 (δ [21]) rfl rfl (Ι _) rfl (by omega) (by omega) ?_)
  intro v_ w11 o_ h_ _;have hs11:=h_.size;replace OE:=H_ (OE.o.outside h_ (by omega));replace OF:=H_ (OF.o.outside h_ (by omega));replace OG:=H_ (OG.o.outside h_ (by omega));replace OS:=H_ (OS.o.outside h_ (by omega));replace K1:=H_ (K1.o.outside h_ (by omega));replace HO:=H_ (HO.o.fresh h_ (by omega));replace HR:=H_ (HR.o.outside h_ (by omega));have K2:Q_ (γ _ w11 3 w11 v_ (j2++[21])):=H_ (by unfold γ;simpa [δ] using o_);have l_k2:(j2++[21]).length=j2.length+1:=by simp
  generalize j2++[21]=k2 at K2 l_k2;obtain⟨a_K2,c_K2,rfl,_⟩:=θ K2.o;have la_k2:=G_ l_k2;have lb_k2:=G_ l_k2.symm;clear l_k2;clear hown o_ h_;clear J2;go_wp2_with fail
  refine(zaj _ _ _ _ _ _ ss k2 19 _ OS.o.sl K2.o.sl (by omega) (by omega) (by first | omega | (simp;omega))).mono ?_;rintro e w12 ⟨v_J3,rfl,h_,o_⟩;have hs12:=h_.size;replace OE:=H_ (OE.o.below h_ (by omega));replace OF:=H_ (OF.o.below h_ (by omega));replace OG:=H_ (OG.o.below h_ (by omega));replace OS:=H_ (OS.o.below h_ (by omega));replace K1:=H_ (K1.o.below h_ (by omega));replace K2:=H_ (K2.o.below h_ (by omega));replace HO:=H_ (HO.o.below h_ (by omega));replace HR:=H_ (HR.o.below h_ (by omega));clear h_;have l_j3:(ss++k2++[19]).length=ss.length+k2.length+1:=by simp;try omega
  generalize ss++k2++[19]=j3 at o_ l_j3;have la_j3:=G_ l_j3;have lb_j3:=G_ l_j3.symm;clear l_j3;have J3:=H_ o_;obtain⟨a_J3,c_J3,rfl,_⟩:=θ o_;clear o_;go_wp2
  go_ret2
  exact⟨_,_,rfl,k1,j3,(K1.o.sl).wide (by omega) (by omega),(J3.o.sl).wide (by omega) (by omega),by omega,by omega,HO.o,HR.o.mono (by omega)⟩
 ·skip
  go_wp2_with fail
  refine(zaj _ _ _ _ _ _ es fs 19 _ OE.o.sl OF.o.sl (by omega) (by omega) (by first | omega | (simp;omega))).mono ?_;rintro e w8 ⟨v_J1,rfl,h_,o_⟩;have hs8:=h_.size;replace OE:=H_ (OE.o.below h_ (by omega));replace OF:=H_ (OF.o.below h_ (by omega));replace OG:=H_ (OG.o.below h_ (by omega));replace OS:=H_ (OS.o.below h_ (by omega));replace HO:=H_ (HO.o.below h_ (by omega));replace HR:=H_ (HR.o.below h_ (by omega));clear h_;have l_j1:(es++fs++[19]).length=es.length+fs.length+1:=by simp;try omega
  generalize es++fs++[19]=j1 at o_ l_j1;have la_j1:=G_ l_j1;have lb_j1:=G_ l_j1.symm;clear l_j1;have J1:=H_ o_;obtain⟨a_J1,c_J1,rfl,_⟩:=θ o_;clear o_;have hown:=J1.o;go_wp2_with (at_builtin;refine zap w8 rfl _ _ 22 rfl 3 (0:Int) 1 8 underlying22 ω rfl (by decide) (by decide) rfl hown 1 (δ [21]) rfl rfl (Ι _) rfl (by omega) (by omega) ?_)
  intro v_ w9 o_ h_ _;have hs9:=h_.size;replace OE:=H_ (OE.o.outside h_ (by omega));replace OF:=H_ (OF.o.outside h_ (by omega));replace OG:=H_ (OG.o.outside h_ (by omega));replace OS:=H_ (OS.o.outside h_ (by omega));replace HO:=H_ (HO.o.fresh h_ (by omega));replace HR:=H_ (HR.o.outside h_ (by omega));have K1:Q_ (γ _ w9 3 w9 v_ (j1++[21])):=H_ (by unfold γ;simpa [δ] using o_);have l_k1:(j1++[21]).length=j1.length+1:=by simp
  generalize j1++[21]=k1 at K1 l_k1;obtain⟨a_K1,c_K1,rfl,_⟩:=θ K1.o;have la_k1:=G_ l_k1;have lb_k1:=G_ l_k1.symm;clear l_k1;clear hown o_ h_;clear J1;go_wp2_with fail
  refine(zaj _ _ _ _ _ _ k1 es 19 _ K1.o.sl OE.o.sl (by omega) (by omega) (by first | omega | (simp;omega))).mono ?_;rintro e w10 ⟨v_J2,rfl,h_,o_⟩;have hs10:=h_.size;replace OE:=H_ (OE.o.below h_ (by omega));replace OF:=H_ (OF.o.below h_ (by omega));replace OG:=H_ (OG.o.below h_ (by omega));replace OS:=H_ (OS.o.below h_ (by omega));replace K1:=H_ (K1.o.below h_ (by omega));replace HO:=H_ (HO.o.below h_ (by omega));replace HR:=H_ (HR.o.below h_ (by omega));clear h_;have l_j2:(k1++es++[19]).length=k1.length+es.length+1:=by simp;try omega
  generalize k1++es++[19]=j2 at o_ l_j2;have la_j2:=G_ l_j2;have lb_j2:=G_ l_j2.symm;clear l_j2;have J2:=H_ o_;obtain⟨a_J2,c_J2,rfl,_⟩:=θ o_;clear o_;go_wp2_with fail
  refine(zaj _ _ _ _ _ _ fs es 19 _ OF.o.sl OE.o.sl (by omega) (by omega) (by first | omega | (simp;omega))).mono ?_;rintro e w11 ⟨v_J3,rfl,h_,o_⟩;have hs11:=h_.size;replace OE:=H_ (OE.o.below h_ (by omega));replace OF:=H_ (OF.o.below h_ (by omega));replace OG:=H_ (OG.o.below h_ (by omega));replace OS:=H_ (OS.o.below h_ (by omega));replace K1:=H_ (K1.o.below h_ (by omega));replace J2:=H_ (J2.o.below h_ (by omega));replace HO:=H_ (HO.o.below h_ (by omega));replace HR:=H_ (HR.o.below h_ (by omega));clear h_;have l_j3:(fs++es++[19]).length=fs.length+es.length+1:=by simp;try omega
  generalize fs++es++[19]=j3 at o_ l_j3;have la_j3:=G_ l_j3;have lb_j3:=G_ l_j3.symm;clear l_j3;have J3:=H_ o_;obtain⟨a_J3,c_J3,rfl,_⟩:=θ o_;clear o_;have hown:=J3.o;go_wp2_with (at_builtin;refine zap w11 rfl _ _ 22 rfl 3 (0:Int) 1 8 underlying22 ω rfl (by decide) (by decide) rfl hown 1 (δ [21]) rfl rfl (Ι _) rfl (by omega) (by omega) ?_)
  intro v_ w12 o_ h_ _;have hs12:=h_.size;replace OE:=H_ (OE.o.outside h_ (by omega));replace OF:=H_ (OF.o.outside h_ (by omega));replace OG:=H_ (OG.o.outside h_ (by omega));replace OS:=H_ (OS.o.outside h_ (by omega));replace K1:=H_ (K1.o.outside h_ (by omega));replace J2:=H_ (J2.o.outside h_ (by omega));replace HO:=H_ (HO.o.fresh h_ (by omega));replace HR:=H_ (HR.o.outside h_ (by omega));have K3:Q_ (γ _ w12 3 w12 v_ (j3++[21])):=H_ (by unfold γ;simpa [δ] using o_);have l_k3:(j3++[21]).length=j3.length+1:=by simp
  generalize j3++[21]=k3 at K3 l_k3;obtain⟨a_K3,c_K3,rfl,_⟩:=θ K3.o;have la_k3:=G_ l_k3;have lb_k3:=G_ l_k3.symm;clear l_k3;clear hown o_ h_;clear J3;go_wp2_with fail
  refine(zaj _ _ _ _ _ _ es k3 19 _ OE.o.sl K3.o.sl (by omega) (by omega) (by first | omega | (simp;omega))).mono ?_;rintro e w13 ⟨v_J4,rfl,h_,o_⟩;have hs13:=h_.size;replace OE:=H_ (OE.o.below h_ (by omega));replace OF:=H_ (OF.o.below h_ (by omega));replace OG:=H_ (OG.o.below h_ (by omega));replace OS:=H_ (OS.o.below h_ (by omega));replace K1:=H_ (K1.o.below h_ (by omega));replace J2:=H_ (J2.o.below h_ (by omega));replace K3:=H_ (K3.o.below h_ (by omega));replace HO:=H_ (HO.o.below h_ (by omega));replace HR:=H_ (HR.o.below h_ (by omega));clear h_;have l_j4:(es++k3++[19]).length=es.length+k3.length+1:=by simp;try omega
  generalize es++k3++[19]=j4 at o_ l_j4;have la_j4:=G_ l_j4;have lb_j4:=G_ l_j4.symm;clear l_j4;have J4:=H_ o_;obtain⟨a_J4,c_J4,rfl,_⟩:=θ o_;clear o_;go_wp2
  go_ret2
  exact⟨_,_,rfl,j2,j4,(J2.o.sl).wide (by omega) (by omega),(J4.o.sl).wide (by omega) (by omega),by omega,by omega,HO.o,HR.o.mono (by omega)⟩
 ·skip
  go_wp2_with fail
  refine(zaj _ _ _ _ _ _ fs gs 20 _ OF.o.sl OG.o.sl (by omega) (by omega) (by first | omega | (simp;omega))).mono ?_;rintro e w8 ⟨v_J1,rfl,h_,o_⟩;have hs8:=h_.size;replace OE:=H_ (OE.o.below h_ (by omega));replace OF:=H_ (OF.o.below h_ (by omega));replace OG:=H_ (OG.o.below h_ (by omega));replace OS:=H_ (OS.o.below h_ (by omega));replace HO:=H_ (HO.o.below h_ (by omega));replace HR:=H_ (HR.o.below h_ (by omega));clear h_;have l_j1:(fs++gs++[20]).length=fs.length+gs.length+1:=by simp;try omega
  generalize fs++gs++[20]=j1 at o_ l_j1;have la_j1:=G_ l_j1;have lb_j1:=G_ l_j1.symm;clear l_j1;have J1:=H_ o_;obtain⟨a_J1,c_J1,rfl,_⟩:=θ o_;clear o_;go_wp2_with fail
  refine(zaj _ _ _ _ _ _ es j1 19 _ OE.o.sl J1.o.sl (by omega) (by omega) (by first | omega | (simp;omega))).mono ?_;rintro e w9 ⟨v_J2,rfl,h_,o_⟩;have hs9:=h_.size;replace OE:=H_ (OE.o.below h_ (by omega));replace OF:=H_ (OF.o.below h_ (by omega));replace OG:=H_ (OG.o.below h_ (by omega));replace OS:=H_ (OS.o.below h_ (by omega));replace J1:=H_ (J1.o.below h_ (by omega));replace HO:=H_ (HO.o.below h_ (by omega));replace HR:=H_ (HR.o.below h_ (by omega));clear h_;have l_j2:(es++j1++[19]).length=es.length+j1.length+1:=by simp;try omega
  generalize es++j1++[19]=j2 at o_ l_j2;have la_j2:=G_ l_j2;have lb_j2:=G_ l_j2.symm;clear l_j2;have J2:=H_ o_;obtain⟨a_J2,c_J2,rfl,_⟩:=θ o_;clear o_;go_wp2_with fail
  refine(zaj _ _ _ _ _ _ es fs 19 _ OE.o.sl OF.o.sl (by omega) (by omega) (by first | omega | (simp;omega))).mono ?_;rintro e w10 ⟨v_J3,rfl,h_,o_⟩;have hs10:=h_.size;replace OE:=H_ (OE.o.below h_ (by omega));replace OF:=H_ (OF.o.below h_ (by omega));replace OG:=H_ (OG.o.below h_ (by omega));replace OS:=H_ (OS.o.below h_ (by omega));replace J1:=H_ (J1.o.below h_ (by omega));replace J2:=H_ (J2.o.below h_ (by omega));replace HO:=H_ (HO.o.below h_ (by omega));replace HR:=H_ (HR.o.below h_ (by omega));clear h_;have l_j3:(es++fs++[19]).length=es.length+fs.length+1:=by simp;try omega
  generalize es++fs++[19]=j3 at o_ l_j3;have la_j3:=G_ l_j3;have lb_j3:=G_ l_j3.symm;clear l_j3;have J3:=H_ o_;obtain⟨a_J3,c_J3,rfl,_⟩:=θ o_;clear o_;go_wp2_with fail
  refine(zaj _ _ _ _ _ _ es gs 19 _ OE.o.sl OG.o.sl (by omega) (by omega) (by first | omega | (simp;omega))).mono ?_;rintro e w11 ⟨v_J4,rfl,h_,o_⟩;have hs11:=h_.size;replace OE:=H_ (OE.o.below h_ (by omega));replace OF:=H_ (OF.o.below h_ (by omega));replace OG:=H_ (OG.o.below h_ (by omega));replace OS:=H_ (OS.o.below h_ (by omega));replace J1:=H_ (J1.o.below h_ (by omega));replace J2:=H_ (J2.o.below h_ (by omega));replace J3:=H_ (J3.o.below h_ (by omega));replace HO:=H_ (HO.o.below h_ (by omega));replace HR:=H_ (HR.o.below h_ (by omega));clear h_;have l_j4:(es++gs++[19]).length=es.length+gs.length+1:=by simp;try omega
  generalize es++gs++[19]=j4 at o_ l_j4;have la_j4:=G_ l_j4;have lb_j4:=G_ l_j4.symm;clear l_j4;have J4:=H_ o_;obtain⟨a_J4,c_J4,rfl,_⟩:=θ o_;clear o_;go_wp2_with fail
  refine(zaj _ _ _ _ _ _ j3 j4 20 _ J3.o.sl J4.o.sl (by omega) (by omega) (by first | omega | (simp;omega))).mono ?_;rintro e w12 ⟨v_J5,rfl,h_,o_⟩;have hs12:=h_.size;replace OE:=H_ (OE.o.below h_ (by omega));replace OF:=H_ (OF.o.below h_ (by omega));replace OG:=H_ (OG.o.below h_ (by omega));replace OS:=H_ (OS.o.below h_ (by omega));replace J1:=H_ (J1.o.below h_ (by omega));replace J2:=H_ (J2.o.below h_ (by omega));replace J3:=H_ (J3.o.below h_ (by omega));replace J4:=H_ (J4.o.below h_ (by omega));replace HO:=H_ (HO.o.below h_ (by omega));replace HR:=H_ (HR.o.below h_ (by omega));clear h_;have l_j5:(j3++j4++[20]).length=j3.length+j4.length+1:=by simp;try omega
  generalize j3++j4++[20]=j5 at o_ l_j5;have la_j5:=G_ l_j5;have lb_j5:=G_ l_j5.symm;clear l_j5;have J5:=H_ o_;obtain⟨a_J5,c_J5,rfl,_⟩:=θ o_;clear o_;go_wp2
  go_ret2
  exact⟨_,_,rfl,j2,j5,(J2.o.sl).wide (by omega) (by omega),(J5.o.sl).wide (by omega) (by omega),by omega,by omega,HO.o,HR.o.mono (by omega)⟩
 ·skip
  go_wp2_with fail
  refine(zaj _ _ _ _ _ _ es es 20 _ OE.o.sl OE.o.sl (by omega) (by omega) (by first | omega | (simp;omega))).mono ?_;rintro e w8 ⟨v_J1,rfl,h_,o_⟩;have hs8:=h_.size;replace OE:=H_ (OE.o.below h_ (by omega));replace OF:=H_ (OF.o.below h_ (by omega));replace OG:=H_ (OG.o.below h_ (by omega));replace OS:=H_ (OS.o.below h_ (by omega));replace HO:=H_ (HO.o.below h_ (by omega));replace HR:=H_ (HR.o.below h_ (by omega));clear h_;have l_j1:(es++es++[20]).length=es.length+es.length+1:=by simp;try omega
  generalize es++es++[20]=j1 at o_ l_j1;have la_j1:=G_ l_j1;have lb_j1:=G_ l_j1.symm;clear l_j1;have J1:=H_ o_;obtain⟨a_J1,c_J1,rfl,_⟩:=θ o_;clear o_;go_wp2
  go_ret2
  exact⟨_,_,rfl,es,j1,(OE.o.sl).wide (by omega) (by omega),(J1.o.sl).wide (by omega) (by omega),by omega,by omega,HO.o,HR.o.mono (by omega)⟩
 ·skip
  have hown:=OS.o;go_wp2_with (at_builtin;refine zxy w7 rfl _ _ rfl rfl hown (by omega) 21 rfl rfl (by omega) (by omega) ?_)
  intro v_ w8 o1_ o2_ h_;have hs8:=h_.size;replace HO:=H_ (HO.o.fresh h_ (by omega));replace HR:=H_ (HR.o.outside h_ (by omega));have O1:=H_ o1_;have O2:=H_ o2_;obtain⟨a_O1,c_O1,rfl,_,_⟩:=π o1_;have lo1:(ss++[21]).length<=ss.length+1:=by simp
  generalize ss++[21]=s2 at *;clear o1_ o2_ h_ hown;go_wp2
  go_ret2
  exact⟨_,_,rfl,s2,ss,(O1.o).wide (by omega) (by omega),(O2.o).wide (by omega) (by omega),by omega,by omega,HO.o,HR.o.mono (by omega)⟩
 ·skip
  go_wp2_with fail
  refine(zkp g _ 0 _ HR.o (by omega) (by omega)).mono ?_;rintro e w8 ⟨t,rfl,⟨i0_t,i1_t,i2_t⟩,h_,r_⟩;have hs8:=h_.size;replace OE:=H_ (OE.o.outside h_ (.inr (by omega)));replace OF:=H_ (OF.o.outside h_ (.inr (by omega)));replace OG:=H_ (OG.o.outside h_ (.inr (by omega)));replace OS:=H_ (OS.o.outside h_ (.inr (by omega)));replace HO:=H_ (HO.o.trans h_);replace HR:=H_ r_;clear h_ r_;obtain⟨t1,t2⟩:=i0_t (by omega);go_wp2_with fail
  refine(zrx _ _ _ es t _ OE.o.sl (by omega) (by omega)).mono ?_;rintro e w9 ⟨vk,okk,rfl,h_,ks,ok_,lk_,lk2_⟩;have hs9:=h_.size;replace OE:=H_ (OE.o.below h_ (by omega));replace OF:=H_ (OF.o.below h_ (by omega));replace OG:=H_ (OG.o.below h_ (by omega));replace OS:=H_ (OS.o.below h_ (by omega));replace HO:=H_ (HO.o.below h_ (by omega));replace HR:=H_ (HR.o.below h_ (by omega));have OK:=H_ (ok_);have hk2:=lk2_ t1 t2 HK.o (by omega);obtain⟨ak_,ck_,rfl,_⟩:=θ ok_;clear ok_ lk2_;clear h_;obtain⟨bk,ok2,rfl,_,_,_,hgk⟩:=OK.o.sl.get (ks.length-2) (by omega);have⟨hidx,hidx2⟩:((ks.length:Int)-2)=((ks.length-2:Nat):Int)/\ks.length-2<ks.length:=by omega
  have⟨kx,hkx⟩:=ex_ (ks.length-2);have⟨ky,hky⟩:=ex_ (ks[ks.length-2]);rw[<-hky]at hgk;rw[<-hkx]at hgk hidx hidx2;clear hkx hky;go_wp2_with fail
  have⟨w10,hw_⟩:=xa_ w9 #[.int .i64 ky] 3;obtain⟨h_,K_,hs10⟩:=Η hw_;have HL_:=H_ hw_;simp only[<-hw_];clear hw_;replace OE:=H_ (OE.o.below h_ (by omega));replace OF:=H_ (OF.o.below h_ (by omega));replace OG:=H_ (OG.o.below h_ (by omega));replace OS:=H_ (OS.o.below h_ (by omega));replace OK:=H_ (OK.o.below h_ (by omega));replace HO:=H_ (HO.o.below h_ (by omega));replace HR:=H_ (HR.o.below h_ (by omega));clear h_;have OL:Q_ (γ w9 w10 3 w10 (.slice (q_ w9 0) 1 1) [ky]):=H_ (by rw[HL_.o];exact zb0 _ _);clear HL_ K_
  skip
  refine(zaj _ _ _ _ _ _ ks [ky] 19 _ OK.o.sl OL.o.sl (by omega) (by omega) (by first | omega | (simp;omega))).mono ?_;rintro e w11 ⟨v_J1,rfl,h_,o_⟩;have hs11:=h_.size;replace OE:=H_ (OE.o.below h_ (by omega));replace OF:=H_ (OF.o.below h_ (by omega));replace OG:=H_ (OG.o.below h_ (by omega));replace OS:=H_ (OS.o.below h_ (by omega));replace OK:=H_ (OK.o.below h_ (by omega));replace OL:=H_ (OL.o.below h_ (by omega));replace HO:=H_ (HO.o.below h_ (by omega));replace HR:=H_ (HR.o.below h_ (by omega));clear h_;have l_j1:(ks++[ky]++[19]).length=ks.length+1+1:=by simp;try omega
  generalize ks++[ky]++[19]=j1 at o_ l_j1;have la_j1:=G_ l_j1;have lb_j1:=G_ l_j1.symm;clear l_j1;have J1:=H_ o_;obtain⟨a_J1,c_J1,rfl,_⟩:=θ o_;clear o_;go_wp2
  go_ret2
  exact⟨_,_,rfl,ks,j1,(OK.o.sl).wide (by omega) (by omega),(J1.o.sl).wide (by omega) (by omega),by omega,by omega,HO.o,HR.o.mono (by omega)⟩
 ·skip
  go_wp2_with fail
  refine(zaj _ _ _ _ _ _ es fs 19 _ OE.o.sl OF.o.sl (by omega) (by omega) (by first | omega | (simp;omega))).mono ?_;rintro e w8 ⟨v_J1,rfl,h_,o_⟩;have hs8:=h_.size;replace OE:=H_ (OE.o.below h_ (by omega));replace OF:=H_ (OF.o.below h_ (by omega));replace OG:=H_ (OG.o.below h_ (by omega));replace OS:=H_ (OS.o.below h_ (by omega));replace HO:=H_ (HO.o.below h_ (by omega));replace HR:=H_ (HR.o.below h_ (by omega));clear h_;have l_j1:(es++fs++[19]).length=es.length+fs.length+1:=by simp;try omega
  generalize es++fs++[19]=j1 at o_ l_j1;have la_j1:=G_ l_j1;have lb_j1:=G_ l_j1.symm;clear l_j1;have J1:=H_ o_;obtain⟨a_J1,c_J1,rfl,_⟩:=θ o_;clear o_;go_wp2_with fail
  refine(zaj _ _ _ _ _ _ fs es 19 _ OF.o.sl OE.o.sl (by omega) (by omega) (by first | omega | (simp;omega))).mono ?_;rintro e w9 ⟨v_J2,rfl,h_,o_⟩;have hs9:=h_.size;replace OE:=H_ (OE.o.below h_ (by omega));replace OF:=H_ (OF.o.below h_ (by omega));replace OG:=H_ (OG.o.below h_ (by omega));replace OS:=H_ (OS.o.below h_ (by omega));replace J1:=H_ (J1.o.below h_ (by omega));replace HO:=H_ (HO.o.below h_ (by omega));replace HR:=H_ (HR.o.below h_ (by omega));clear h_;have l_j2:(fs++es++[19]).length=fs.length+es.length+1:=by simp;try omega
  generalize fs++es++[19]=j2 at o_ l_j2;have la_j2:=G_ l_j2;have lb_j2:=G_ l_j2.symm;clear l_j2;have J2:=H_ o_;obtain⟨a_J2,c_J2,rfl,_⟩:=θ o_;clear o_;go_wp2
  go_ret2
  exact⟨_,_,rfl,j1,j2,(J1.o.sl).wide (by omega) (by omega),(J2.o.sl).wide (by omega) (by omega),by omega,by omega,HO.o,HR.o.mono (by omega)⟩
 ·skip
  go_wp2_with fail
  refine(zoq g _ 14 _ HR.o (by omega) (by omega)).mono ?_;rintro e w8 ⟨v_OM,rfl,ms,o_,l_ms,h_,r_⟩;have hs8:=h_.size;replace OE:=H_ (OE.o.outside h_ (.inr (by omega)));replace OF:=H_ (OF.o.outside h_ (.inr (by omega)));replace OG:=H_ (OG.o.outside h_ (.inr (by omega)));replace OS:=H_ (OS.o.outside h_ (.inr (by omega)));replace HO:=H_ (HO.o.trans h_);replace HR:=H_ r_;clear h_ r_;have OM:=H_ o_;clear o_;obtain⟨a_OM,c_OM,rfl,_,_⟩:=π OM.o.sl;go_wp2
  go_ret2
  exact⟨_,_,rfl,es,ms,(OE.o.sl).wide (by omega) (by omega),(OM.o.sl).wide (by omega) (by omega),by omega,by omega,HO.o,HR.o.mono (by omega)⟩
abbrev zxm(g c:Nat)(w:World)(most:Nat):Ending->World->Prop:=ι λv w'=>∃ xs:List Int,SlI w w' w' v xs/\xs.length<=most/\β g (g+1) w w'/\Rd g w' c
theorem zxq(g c:Nat)(n:Int)(w:World)(h:Rd g w c)(hc:c<=1000000)(hn:n<=1000):
  Calls prog 79 #[.pointer (q_ g 0),.int .i64 n] w (zxm g (c+2000) w 44):=by
 have hg:=h.lt;have HR:=H_ h;have HO:=H_ (β.refl g (g+1) w);clear h
 go_enter func79,ntmps79
 go_wp2_with fail
 refine(zm5 g _ 5 n _ HR.o (by omega) (by omega) (by omega) hn).mono ?_;rintro e w1 ⟨v_OE,rfl,es,o_,l_es,h_,r_⟩;have hs1:=h_.size;replace HO:=H_ (HO.o.trans h_);replace HR:=H_ r_;clear h_ r_;have OE:=H_ o_;clear o_;obtain⟨a_OE,c_OE,rfl,_,_⟩:=π OE.o.sl;replace OE:=H_ OE.o.sl;go_wp2_with fail
 refine(Δ g _ _ _ HR.o (by omega)).mono ?_;rintro e w2 ⟨q,rfl,i_,h_,r_⟩;obtain⟨i1_q,i2_q⟩:=i_.lt (by omega);clear i_;have hs2:=h_.size;replace OE:=H_ (OE.o.outside h_ (.inr (by omega)));replace HO:=H_ (HO.o.trans h_);replace HR:=H_ r_;clear h_ r_;cases hq:q==0
 ·skip
  go_wp2;go_ret;exact ι.mk _ rfl ⟨es,OE.o.wide (by omega) (by omega),by omega,HO.o,HR.o.mono (by omega)⟩
 ·skip
  go_wp2_with fail
  refine(zxh g _ _ HR.o (by omega)).mono ?_;rintro e w3 ⟨va,vb,rfl,xs,ys,o1_,o2_,l1,l2,h_,r_⟩;have hs3:=h_.size;replace OE:=H_ (OE.o.outside h_ (.inr (by omega)));replace HO:=H_ (HO.o.trans h_);replace HR:=H_ r_;clear h_ r_;have OX:=H_ o1_;have OY:=H_ o2_;obtain⟨ax,cx,rfl,_,_⟩:=π o1_;obtain⟨ay,cy,rfl,_,_⟩:=π o2_;clear o1_ o2_;go_wp2_with fail
  refine(Δ g _ _ _ HR.o (by omega)).mono ?_;rintro e w4 ⟨q2,rfl,i_,h_,r_⟩;obtain⟨i1_q2,i2_q2⟩:=i_.lt (by omega);clear i_;have hs4:=h_.size;replace OE:=H_ (OE.o.outside h_ (.inr (by omega)));replace OX:=H_ (OX.o.outside h_ (.inr (by omega)));replace OY:=H_ (OY.o.outside h_ (.inr (by omega)));replace HO:=H_ (HO.o.trans h_);replace HR:=H_ r_;clear h_ r_;cases hq2:q2==0
  ·skip
   by_cases h20:xs.length<20
   ·(have h20i:(xs.length:Int)<20:=by omega);go_wp2_with fail
    refine(Δ g _ _ _ HR.o (by omega)).mono ?_;rintro e w5 ⟨q3,rfl,i_,h_,r_⟩;obtain⟨i1_q3,i2_q3⟩:=i_.lt (by omega);clear i_;have hs5:=h_.size;replace OE:=H_ (OE.o.outside h_ (.inr (by omega)));replace OX:=H_ (OX.o.outside h_ (.inr (by omega)));replace OY:=H_ (OY.o.outside h_ (.inr (by omega)));replace HO:=H_ (HO.o.trans h_);replace HR:=H_ r_;clear h_ r_;cases hq3:q3==0
    ·skip
     go_wp2;go_ret;exact ι.mk _ rfl ⟨xs,OX.o.wide (by omega) (by omega),by omega,HO.o,HR.o.mono (by omega)⟩
    ·skip
     go_wp2_with fail
     refine(Δ g _ _ _ HR.o (by omega)).mono ?_;rintro e w6 ⟨q4,rfl,i_,h_,r_⟩;obtain⟨i1_q4,i2_q4⟩:=i_.lt (by omega);clear i_;have hs6:=h_.size;replace OE:=H_ (OE.o.outside h_ (.inr (by omega)));replace OX:=H_ (OX.o.outside h_ (.inr (by omega)));replace OY:=H_ (OY.o.outside h_ (.inr (by omega)));replace HO:=H_ (HO.o.trans h_);replace HR:=H_ r_;clear h_ r_;go_wp2_with fail
     (have⟨w7,hw_⟩:=xa_ w6 #[.int .i64 (q4*15)] 3;obtain⟨h_,K_,hs7⟩:=Η hw_;have HL_:=H_ hw_;simp only[<-hw_];clear hw_;replace OE:=H_ (OE.o.below h_ (by omega));replace OX:=H_ (OX.o.below h_ (by omega));replace OY:=H_ (OY.o.below h_ (by omega));replace HO:=H_ (HO.o.below h_ (by omega));replace HR:=H_ (HR.o.below h_ (by omega));clear h_;have OL:Q_ (γ w6 w7 3 w7 (.slice (q_ w6 0) 1 1) [q4*15]):=H_ (by rw[HL_.o];exact zb0 _ _);clear HL_ K_)
     skip
     refine(Δ g _ _ _ HR.o (by omega)).mono ?_;rintro e w8 ⟨q5,rfl,i_,h_,r_⟩;obtain⟨i1_q5,i2_q5⟩:=i_.lt (by omega);clear i_;have hs8:=h_.size;replace OE:=H_ (OE.o.outside h_ (.inr (by omega)));replace OX:=H_ (OX.o.outside h_ (.inr (by omega)));replace OY:=H_ (OY.o.outside h_ (.inr (by omega)));replace OL:=H_ (OL.o.outside h_ (.inr (by omega)));replace HO:=H_ (HO.o.trans h_);replace HR:=H_ r_;clear h_ r_;go_wp2_with fail
     refine(zaj _ _ _ _ _ _ xs [q4*15] (19+q5) _ OX.o OL.o.sl (by omega) (by omega) (by simp;omega)).mono ?_;rintro e w9 ⟨v_J,rfl,h_,o_⟩;have hs9:=h_.size;replace OE:=H_ (OE.o.below h_ (by omega));replace OX:=H_ (OX.o.below h_ (by omega));replace OY:=H_ (OY.o.below h_ (by omega));replace OL:=H_ (OL.o.below h_ (by omega));replace HO:=H_ (HO.o.below h_ (by omega));replace HR:=H_ (HR.o.below h_ (by omega));clear h_;have lj:(xs++[q4*15]++[19+q5]).length<=xs.length+2:=by simp
     generalize xs++[q4*15]++[19+q5]=js at o_ lj;have J:=H_ o_;obtain⟨aj,cj,rfl,_⟩:=θ o_;clear o_;go_wp2;go_ret;exact ι.mk _ rfl ⟨js,J.o.sl.wide (by omega) (by omega),by omega,HO.o,HR.o.mono (by omega)⟩
   ·(have h20i:¬(xs.length:Int)<20:=by omega);go_wp2;go_ret;exact ι.mk _ rfl ⟨xs,OX.o.wide (by omega) (by omega),by omega,HO.o,HR.o.mono (by omega)⟩
  ·skip
   by_cases h20:ys.length<20
   ·(have h20i:(ys.length:Int)<20:=by omega);go_wp2_with fail
    refine(Δ g _ _ _ HR.o (by omega)).mono ?_;rintro e w5 ⟨q3,rfl,i_,h_,r_⟩;obtain⟨i1_q3,i2_q3⟩:=i_.lt (by omega);clear i_;have hs5:=h_.size;replace OE:=H_ (OE.o.outside h_ (.inr (by omega)));replace OX:=H_ (OX.o.outside h_ (.inr (by omega)));replace OY:=H_ (OY.o.outside h_ (.inr (by omega)));replace HO:=H_ (HO.o.trans h_);replace HR:=H_ r_;clear h_ r_;cases hq3:q3==0
    ·skip
     go_wp2;go_ret;exact ι.mk _ rfl ⟨ys,OY.o.wide (by omega) (by omega),by omega,HO.o,HR.o.mono (by omega)⟩
    ·skip
     go_wp2_with fail
     refine(Δ g _ _ _ HR.o (by omega)).mono ?_;rintro e w6 ⟨q4,rfl,i_,h_,r_⟩;obtain⟨i1_q4,i2_q4⟩:=i_.lt (by omega);clear i_;have hs6:=h_.size;replace OE:=H_ (OE.o.outside h_ (.inr (by omega)));replace OX:=H_ (OX.o.outside h_ (.inr (by omega)));replace OY:=H_ (OY.o.outside h_ (.inr (by omega)));replace HO:=H_ (HO.o.trans h_);replace HR:=H_ r_;clear h_ r_;go_wp2_with fail
     (have⟨w7,hw_⟩:=xa_ w6 #[.int .i64 (q4*15)] 3;obtain⟨h_,K_,hs7⟩:=Η hw_;have HL_:=H_ hw_;simp only[<-hw_];clear hw_;replace OE:=H_ (OE.o.below h_ (by omega));replace OX:=H_ (OX.o.below h_ (by omega));replace OY:=H_ (OY.o.below h_ (by omega));replace HO:=H_ (HO.o.below h_ (by omega));replace HR:=H_ (HR.o.below h_ (by omega));clear h_;have OL:Q_ (γ w6 w7 3 w7 (.slice (q_ w6 0) 1 1) [q4*15]):=H_ (by rw[HL_.o];exact zb0 _ _);clear HL_ K_)
     skip
     refine(Δ g _ _ _ HR.o (by omega)).mono ?_;rintro e w8 ⟨q5,rfl,i_,h_,r_⟩;obtain⟨i1_q5,i2_q5⟩:=i_.lt (by omega);clear i_;have hs8:=h_.size;replace OE:=H_ (OE.o.outside h_ (.inr (by omega)));replace OX:=H_ (OX.o.outside h_ (.inr (by omega)));replace OY:=H_ (OY.o.outside h_ (.inr (by omega)));replace OL:=H_ (OL.o.outside h_ (.inr (by omega)));replace HO:=H_ (HO.o.trans h_);replace HR:=H_ r_;clear h_ r_;go_wp2_with fail
     refine(zaj _ _ _ _ _ _ ys [q4*15] (19+q5) _ OY.o OL.o.sl (by omega) (by omega) (by simp;omega)).mono ?_;rintro e w9 ⟨v_J,rfl,h_,o_⟩;have hs9:=h_.size;replace OE:=H_ (OE.o.below h_ (by omega));replace OX:=H_ (OX.o.below h_ (by omega));replace OY:=H_ (OY.o.below h_ (by omega));replace OL:=H_ (OL.o.below h_ (by omega));replace HO:=H_ (HO.o.below h_ (by omega));replace HR:=H_ (HR.o.below h_ (by omega));clear h_;have lj:(ys++[q4*15]++[19+q5]).length<=ys.length+2:=by simp
     generalize ys++[q4*15]++[19+q5]=js at o_ lj;have J:=H_ o_;obtain⟨aj,cj,rfl,_⟩:=θ o_;clear o_;go_wp2;go_ret;exact ι.mk _ rfl ⟨js,J.o.sl.wide (by omega) (by omega),by omega,HO.o,HR.o.mono (by omega)⟩
   ·(have h20i:¬(ys.length:Int)<20:=by omega);go_wp2;go_ret;exact ι.mk _ rfl ⟨ys,OY.o.wide (by omega) (by omega),by omega,HO.o,HR.o.mono (by omega)⟩
def RetM(P:Mv->World->Prop)(e:Ending)(w':World):Prop:=∃ m:Mv,e=.returned (.agg #[.int .i64 m.which,.bool m.back,.int .i64 m.at_])/\P m w'
theorem β.new3 {G:Nat} {a:World}(h:β g (g+1) a w)(hG:a.heap.size<=G)(x y z:Value):β g (g+1) a (((w.setCell (p_ G 0) x).setCell (p_ G 1) y).setCell (p_ G 2) z):=
 h.fresh (β.set3 G w x y z) hG
theorem zu3(g c lo hi:Nat)(ve:Value)(e:List Int)(w:World)(h:Rd g w c)(hc:c<=10000000)(hx:SlI lo hi w ve e)(hh:hi<=w)(hm:e.length<=1000000)(hap:g+1<=lo):
  Calls prog 126 #[.pointer (q_ g 0),ve] w (RetM λ_ w'=>β g (g+1) w w'/\Rd g w' (c+100)):=by
 have hg:=h.lt;have⟨w0,hw0⟩:=xa_ w #[(0:Int),.bool false,(0:Int)] 67;have hb0:Below w w w0:=by rw[hw0];exact(B_ _ _).alloc (le_ _) _
 have K:Q_ (Blk w (.cells #[(0:Int),.bool false,(0:Int)] 67) w0):=by rw[hw0];exact H_ (κ w _)
 have hsz:w0=w.heap.size+1:=by rw[hw0];simp
 have HR:=H_ (h.below hb0 hg);have HO:=H_ ((β.refl g (g+1) w).below hb0 (le_ _));obtain⟨ea,ec,rfl,_,_⟩:=π hx;have HX:=H_ (hx.below hb0 hh);have HW0:=H_ hw0;clear h hx hb0 hw0
 go_enter func126,ntmps126
 go_wp2_with (rw[<-HW0.o])
 go_loopw [5] (λi wr=>∃ j:Nat,j<=24/\i=.int .i64 j/\Q_ (β g (g+1) w wr/\Rd g wr (c+3*j)/\Blk w (.cells #[(0:Int),.bool false,(0:Int)] 67) wr/\SlI lo hi wr (.slice ea e ec) e/\w0<=wr.heap.size)) (λi _=>24-(intOf i).toNat)
 case atStart=>exact⟨0,by omega,rfl,H_ ⟨HO.o,HR.o,K.o,HX.o,le_ _⟩⟩
 case round=>
  clear HO HR K HX;obtain⟨j,hj,rfl,HQ⟩:=hrel;have HO:=H_ HQ.o.1;have HR:=H_ HQ.o.2.1;have K:=H_ HQ.o.2.2.1;have HX:=H_ HQ.o.2.2.2.1;have hsr:=HQ.o.2.2.2.2;clear HQ;by_cases hlt:j<24
  ·skip
   go_wp2_with fail
   refine(Δ g _ _ _ HR.o (by omega)).mono ?_;rintro e w1 ⟨q1,rfl,i_,h_,r_⟩;obtain⟨i1_q1,i2_q1⟩:=i_.lt (by omega);clear i_;have hs1:=h_.size;replace HX:=H_ (HX.o.outside h_ (.inr (by omega)));replace K:=H_ (K.o.outside h_ (.inr (by omega)));replace HO:=H_ (HO.o.trans h_);replace HR:=H_ r_;clear h_ r_;go_wp2_with fail
   refine(Δ g _ _ _ HR.o (by omega)).mono ?_;rintro e w2 ⟨q2,rfl,i_,h_,r_⟩;obtain⟨i1_q2,i2_q2⟩:=i_.lt (by omega);clear i_;have hs2:=h_.size;replace HX:=H_ (HX.o.outside h_ (.inr (by omega)));replace K:=H_ (K.o.outside h_ (.inr (by omega)));replace HO:=H_ (HO.o.trans h_);replace HR:=H_ r_;clear h_ r_;have hmx:(0:Int)<max (e.length:Int) 1:=by omega
   go_wp2_with fail
   refine(Δ g _ _ _ HR.o (by omega)).mono ?_;rintro e3 w3 ⟨q3,rfl,i_,h_,r_⟩;clear i_;have hs3:=h_.size;replace HX:=H_ (HX.o.outside h_ (.inr (by omega)));replace K:=H_ (K.o.outside h_ (.inr (by omega)));replace HO:=H_ (HO.o.trans h_);replace HR:=H_ r_;clear h_ r_;obtain⟨m,hm⟩:∃ m:Mv,m=⟨q1,q2==0,q3⟩:=⟨_,rfl⟩;go_wp2_with fail
   have⟨w4,hw_⟩:=xa_ w3 #[.int .i64 q1,.bool (q2==0),.int .i64 q3] 67;obtain⟨h_,K_,hs4⟩:=Η hw_;simp only[<-hw_];clear hw_;replace HX:=H_ (HX.o.below h_ (by omega));replace K:=H_ (K.o.below h_ (by omega));replace HO:=H_ (HO.o.below h_ (by omega));replace HR:=H_ (HR.o.below h_ (by omega));have KM:=H_ K_;clear h_ K_;refine(zj0 _ e ⟨q1,q2==0,q3⟩ w4 (zd0 HX.o (by omega)) (by omega)).mono ?_;rintro e4 w5 ⟨v4,ok,rfl,h_,hok,o_⟩;have hs5:=h_.size;replace HX:=H_ (HX.o.below h_ (by omega));replace K:=H_ (K.o.below h_ (by omega));replace KM:=H_ (KM.o.below h_ (by omega));replace HO:=H_ (HO.o.below h_ (by omega));replace HR:=H_ (HR.o.below h_ (by omega));obtain⟨a4,c4,rfl,_⟩:=θ o_;clear h_ o_ hok hm;cases ok
   ·go_wp2
    go_roundw
    (case rel=>exact⟨j+1,by omega,by go_num,H_ ⟨HO.o,HR.o.mono (by omega),K.o,HX.o,by omega⟩⟩);case measure=>simp[intOf];omega
   ·skip
    (have⟨m0,m1,m2⟩:=KM.o.c3;have f0:=K.o.free 0;have c0:=K.o.cell 0;have f1:=K.o.free 1;have c1:=K.o.cell 1;have f2:=K.o.free 2;have c2:=K.o.cell 2;have⟨wz,hwz⟩:=x3_ w5 w q1 (.bool (q2==0)) q3;have KZ:=K.o.set3 q1 (.bool (q2==0)) q3;have HZ:β g (g+1) w wz:=by rw[hwz];exact β.new3 HO.o (by omega) q1 (.bool (q2==0)) q3);have HRZ:=HR.o.outside (β.set3 w w5 q1 (.bool (q2==0)) q3) (by omega);rw[<-hwz]at KZ HRZ;obtain⟨q0_,q1_,q2_⟩:=KZ.c3;clear KZ;go_wp2;simp only[<-hwz];clear hwz;refine d_ (v:=.agg #[(.int .i64 q1),(.bool (q2==0)),(.int .i64 q3)]) (by simp[results,results126,go_sem,q0_,q1_,q2_]) rfl ⟨⟨_,_,_⟩,rfl,HZ,HRZ.mono (by omega)⟩
  ·skip
   go_wp2_with fail
   refine(Δ g _ _ _ HR.o (by omega)).mono ?_;rintro e w1 ⟨q4,rfl,i_,h_,r_⟩;obtain⟨i1_q4,i2_q4⟩:=i_.lt (by omega);clear i_;have hs1:=h_.size;replace HX:=H_ (HX.o.outside h_ (.inr (by omega)));replace K:=H_ (K.o.outside h_ (.inr (by omega)));replace HO:=H_ (HO.o.trans h_);replace HR:=H_ r_;clear h_ r_;go_wp2_with fail
   refine(Δ g _ _ _ HR.o (by omega)).mono ?_;rintro e w2 ⟨q5,rfl,i_,h_,r_⟩;obtain⟨i1_q5,i2_q5⟩:=i_.lt (by omega);clear i_;have hs2:=h_.size;replace HX:=H_ (HX.o.outside h_ (.inr (by omega)));replace K:=H_ (K.o.outside h_ (.inr (by omega)));replace HO:=H_ (HO.o.trans h_);replace HR:=H_ r_;clear h_ r_;have f0:=K.o.free 0;have c0:=K.o.cell 0;have f1:=K.o.free 1;have c1:=K.o.cell 1;have f2:=K.o.free 2;have c2:=K.o.cell 2;have⟨wz,hwz⟩:=x3_ w2 w (.int .i64 (q4-1)) (.bool false) (.int .i64 (q5-1));have KZ:=K.o.set3 (.int .i64 (q4-1)) (.bool false) (.int .i64 (q5-1));have HZ:β g (g+1) w wz:=by rw[hwz];exact β.new3 HO.o (by omega) (.int .i64 (q4-1)) (.bool false) (.int .i64 (q5-1))
   have HRZ:=HR.o.outside (β.set3 w w2 (.int .i64 (q4-1)) (.bool false) (.int .i64 (q5-1))) (by omega);rw[<-hwz]at KZ HRZ;obtain⟨q0_,q1_,q2_⟩:=KZ.c3;clear KZ;go_wp2;simp only[<-hwz];clear hwz;refine d_ (v:=.agg #[(.int .i64 (q4-1)),(.bool false),(.int .i64 (q5-1))]) (by simp[results,results126,go_sem,q0_,q1_,q2_]) rfl ⟨⟨_,_,_⟩,rfl,HZ,HRZ.mono (by omega)⟩
theorem Ξ.lower {lo lo' hi hi' e:Nat} {v:Value} {l:List Mv}(h:Ξ lo hi e w v l)(h1:lo'<=lo)(h2:hi<=hi'):Ξ lo' hi' e w v l:=za3 h h1 h2
end Go.Proofs.YtfnnhimopokpnaaGreatDoor
