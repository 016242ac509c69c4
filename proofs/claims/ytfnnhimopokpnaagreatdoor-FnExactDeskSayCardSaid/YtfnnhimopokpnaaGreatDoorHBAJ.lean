/- Lemmas for this seat; no condition. -/
import Derived.Test.YtfnnhimopokpnaaGreatDoorHBAH
import Derived.Stop.LaidErr
import Derived.Lib.SmallJoins
import Derived.Deep.DeepCutAuto
namespace Go.Proofs.YtfnnhimopokpnaaGreatDoor
open Go.RowKit Proofs.Tryz
set_option maxRecDepth 100000
set_option maxHeartbeats 0
set_option linter.all false
variable {w x:World} {p q:Int} {m:Mv} {n g B:Nat} {c:UInt8} {r l:List UInt8} {xs:List Int}
def zsx:ByteArray:=⟨#[48,49,50,51,52,53,54,55,56,57,97,98,99,100,101,102,103,104,105,106,107,108,109,110,111,112,113,114,115,116,117,118,119,120,121,122]⟩
def zu7:ByteArray:=⟨#[48,48,48,49,48,50,48,51,48,52,48,53,48,54,48,55,48,56,48,57,49,48,49,49,49,50,49,51,49,52,49,53,49,54,49,55,49,56,49,57,50,48,50,49,50,50,50,51,50,52,50,53,50,54,50,55,50,56,50,57,51,48,51,49,51,50,51,51,51,52,51,53,51,54,51,55,51,56,51,57,52,48,52,49,52,50,52,51,52,52,52,53,52,54,52,55,52,56,52,57,53,48,53,49,53,50,53,51,53,52,53,53,53,54,53,55,53,56,53,57,54,48,54,49,54,50,54,51,54,52,54,53,54,54,54,55,54,56,54,57,55,48,55,49,55,50,55,51,55,52,55,53,55,54,55,55,55,56,55,57,56,48,56,49,56,50,56,51,56,52,56,53,56,54,56,55,56,56,56,57,57,48,57,49,57,50,57,51,57,52,57,53,57,54,57,55,57,56,57,57]⟩
theorem zub:∀ n,n<10->zsx.extract n (n+1)=⟨(Γ n).toArray⟩:=by decide +kernel
theorem zyo:∀ n,n<100->10<=n->zu7.extract (n*2) (n*2+2)=⟨(Γ n).toArray⟩:=by decide +kernel
theorem zu6(n:Nat)(w:World)(h:n<100):
  Calls prog 204 #[.int .i64 n] w λe w'=>e=.returned (.string ⟨(Γ n).toArray⟩)/\w=w':=by
 by_cases h1:n<10
 ·have hk:=H_ (zub n h1)
  go_enter func204,ntmps204
  go_wp2;go_ret;refine⟨?_,rfl⟩;rw[<-hk.o];rfl
 ·have hk:=H_ (zyo n h (by omega))
  go_enter func204,ntmps204
  go_wp2;go_ret;refine⟨?_,rfl⟩;rw[<-hk.o];rfl
theorem zp6(n:Nat)(w:World)(h:n<100):
  Calls prog 88 #[.int .i64 n] w λe w'=>e=.returned (.string ⟨(Γ n).toArray⟩)/\w=w':=by
 go_enter func88,ntmps88
 go_wp2_with (first | (go_at_call 204;refine(zu6 n _ h).mono ?_;rintro e w' ⟨rfl,rfl⟩) | go_in)
 go_ret;exact⟨rfl,rfl⟩
theorem zme(n:Nat)(w:World)(h:n<100):
  Calls prog 88 #[.int .i64 n] w λe w'=>e=.returned (.string ⟨(Γ n).toArray⟩)/\w'=w:=
 (zp6 n w h).mono λ_ _ h=>⟨h.1,h.2.symm⟩
def za2(m:Mv):Bool:=decide (0<=m.which)&&decide (m.which<=20)&&decide (0<=m.at_)&&decide (m.at_<=39)
def Α(m:Mv):List UInt8:=if za2 m then (if m.back then [45] else [43])++Γ m.which.toNat++[64]++Γ m.at_.toNat else []
theorem ze8(n:Nat):(Γ n).length<=2:=by unfold Γ;split<;>simp
theorem zjn(m:Mv):(Α m).length<=6:=by
 unfold Α
 split
 ·have h1:=ze8 m.which.toNat
  have h2:=ze8 m.at_.toNat;cases m.back<;>simp<;>omega
 ·simp
theorem zj0(sg:UInt8)(p q:Nat)(l:List UInt8)(h:l=[sg]++Γ p++[64]++Γ q):
  Ending.returned (.string ({ data:=#[sg] }++{ data:=(Γ p).toArray }++{ data:=#[64] }++{ data:=(Γ q).toArray }))=.returned (.string ⟨l.toArray⟩):=by
 show Ending.returned (.string (ByteArray.mk [sg].toArray++ByteArray.mk (Γ p).toArray++ByteArray.mk [64].toArray++ByteArray.mk (Γ q).toArray))=_
 rw[a0_,a0_,a0_,h]
theorem zlf(m:Mv)(w:World):
  Calls prog 93 #[.agg #[.int .i64 m.which,.bool m.back,.int .i64 m.at_]] w λe w'=>e=.returned (.string ⟨(Α m).toArray⟩)/\Below w w w':=by
 obtain⟨p,b,q⟩:=m;have hb:Q_ (∀ o,Below w w (w.alloc o)):=H_ λo=>(B_ _ _).alloc (le_ _) _
 by_cases h1:0<=p/\p<=20
 ·by_cases h2:0<=q
  ·by_cases h3:q<=39
   ·(obtain⟨p,rfl⟩:∃ n:Nat,p=n:=⟨p.toNat,by omega⟩);(obtain⟨q,rfl⟩:∃ n:Nat,q=n:=⟨q.toNat,by omega⟩;have⟨hp,hq,hp',hq'⟩:p<100/\q<100/\p<=20/\q<=39:=by omega);have l1:=ze8 p;have l2:=ze8 q;have HT:=H_ (show Α ⟨p,b,q⟩=(if b then [45] else [43])++Γ p++[64]++Γ q by simp[Α,za2];omega);clear h1 h2 h3;cases b
    ·go_enter func93,ntmps93
     go_wp2
     go_quiet ((go_at_call 88;exact Calls.quiet_of_same (zme _ _ (by assumption))))
     go_wp2;go_ret;exact⟨zj0 43 p q _ HT.o,S_ (hb.o _) _⟩
    ·go_enter func93,ntmps93
     go_wp2
     go_quiet ((go_at_call 88;exact Calls.quiet_of_same (zme _ _ (by assumption))))
     go_wp2;go_ret;exact⟨zj0 45 p q _ HT.o,S_ (hb.o _) _⟩
   ·(have HT:=H_ (show Α ⟨p,b,q⟩=[] by simp[Α,za2];omega));go_enter func93,ntmps93
    go_wp2;go_ret;exact⟨za3 (a:=[]) (by rw[HT.o]),hb.o _⟩
  ·have HT:=H_ (show Α ⟨p,b,q⟩=[] by simp[Α,za2];omega)
   go_enter func93,ntmps93
   go_wp2;go_ret;exact⟨za3 (a:=[]) (by rw[HT.o]),hb.o _⟩
 ·have HT:=H_ (show Α ⟨p,b,q⟩=[] by simp[Α,za2];omega)
  by_cases h2:0<=p
  ·have h3:20<p:=by omega
   clear h1
   go_enter func93,ntmps93
   go_wp2;go_ret;exact⟨za3 (a:=[]) (by rw[HT.o]),hb.o _⟩
  ·clear h1
   go_enter func93,ntmps93
   go_wp2;go_ret;exact⟨za3 (a:=[]) (by rw[HT.o]),hb.o _⟩
theorem zht(a:Nat):UInt8.ofNat ((48:Int)+(a:Int)).toNat=UInt8.ofNat (48+a):=by
 congr 1
theorem zmh(n:Nat)(w:World)(h:n<100):
  Calls prog 104 #[.int .i64 n] w λe w'=>e=.returned (.string ⟨(Γ n).toArray⟩)/\Below w w w':=by
 by_cases h1:n<10
 ·have HT:=H_ (show Γ n=[UInt8.ofNat ((48:Int)+(n:Int)).toNat] by rw[zht];simp[Γ,h1])
  have hcv:=zgc (P:=prog) 40 9 5 underlying40 underlying5 underlying9 w [48+(n:Int)];simp only[y_,O_,cd_,b7_,G_]at hcv
  go_enter func104,ntmps104
  go_wp2;go_ret;exact⟨za3 HT.o.symm,(B_ _ _).alloc (le_ _) _⟩
 ·obtain⟨a,ha,ha2⟩:∃ a:Nat,(n:Int)/10=a/\n/10=a:=⟨n/10,by omega,rfl⟩
  obtain⟨b,hb,hb2⟩:∃ b:Nat,(n:Int)%10=b/\n%10=b:=⟨n%10,by omega,rfl⟩;have⟨ba,bb⟩:a<=9/\b<=9:=by omega
  have HT:=H_ (show Γ n=[UInt8.ofNat ((48:Int)+(a:Int)).toNat,UInt8.ofNat ((48:Int)+(b:Int)).toNat] by rw[zht,zht];simp[Γ,h1,ha2,hb2]);have hcv:=zgc (P:=prog) 40 9 5 underlying40 underlying5 underlying9 w [48+(a:Int),48+(b:Int)];simp only[y_,O_,cd_,b7_,G_,Nat.reduceAdd]at hcv;clear ha2 hb2
  go_enter func104,ntmps104
  go_wp2;go_ret;exact⟨za3 HT.o.symm,(B_ _ _).alloc (le_ _) _⟩
def MvS(w:World)(p q:Int)(w':World):Prop:=w'.cell? (p_ w 0)=some (.int .i64 p)/\w'.cell? (p_ w 2)=some (.int .i64 q)/\w<w'.heap.size/\Below w w w'
theorem MvS.start(w:World)(p q:Int)(b:Bool)(e:TypeId):MvS w p q (w.alloc (.cells #[.int .i64 p,.bool b,.int .i64 q] e)).drew:=by
 refine⟨?_,?_,?_,((B_ _ _).alloc (le_ _) _).drew⟩
 ·exact(θ w _).cell 0
 ·exact(θ w _).cell 2
 ·simp
theorem MvS.step {w1:World}(h:x.cell? (p_ w 0)=some (.int .i64 p)/\x.cell? (p_ w 2)=some (.int .i64 q)/\w<x.heap.size/\Below w w x)(hb:Below x x w1):MvS w p q w1:=
 ⟨(hb.cell h.2.2.1).trans h.1,(hb.cell h.2.2.1).trans h.2.1,C_ h.2.2.1 hb.size,h.2.2.2.trans (hb.mono (b9_ h.2.2.1))⟩
theorem MvS.bel(h:x.cell? (p_ w 0)=some (.int .i64 p)/\x.cell? (p_ w 2)=some (.int .i64 q)/\w<x.heap.size/\Below w w x):Below w w x:=h.2.2.2
theorem zi8(m:Mv)(w:World):
  Calls prog 61 #[.agg #[.int .i64 m.which,.bool m.back,.int .i64 m.at_]] w λe w'=>e=.returned (.string ⟨(Α m).toArray⟩)/\Below w w w':=by
 obtain⟨p,b,q⟩:=m;have hb:Q_ (∀ o,Below w w (w.alloc o)):=H_ λo=>(B_ _ _).alloc (le_ _) _
 cases h1:inB p 0 20
 ·have HT:=H_ (show Α ⟨p,b,q⟩=[] by simp[inB] at h1;simp[Α,za2];omega)
  go_enter func61,ntmps61
  go_wp2_with (go_at_call 101;refine(zau _ _ _ _).mono ?_;rintro e w' ⟨rfl,rfl⟩)
  go_ret;exact⟨za3 (a:=[]) (by rw[HT.o]),hb.o _⟩
 ·cases h2:inB q 0 39
  ·have HT:=H_ (show Α ⟨p,b,q⟩=[] by simp[inB] at h2;simp[Α,za2];omega)
   go_enter func61,ntmps61
   go_wp2_with (go_at_call 101;refine(zau _ _ _ _).mono ?_;rintro e w' ⟨rfl,rfl⟩)
   go_ret;exact⟨za3 (a:=[]) (by rw[HT.o]),hb.o _⟩
  ·have g1:0<=p/\p<=20:=by simpa [inB] using h1
   have g2:0<=q/\q<=39:=by simpa [inB] using h2
   obtain⟨p,rfl⟩:∃ n:Nat,p=n:=⟨p.toNat,by omega⟩;obtain⟨q,rfl⟩:∃ n:Nat,q=n:=⟨q.toNat,by omega⟩;have⟨hp,hq⟩:p<100/\q<100:=by omega
   have l1:=ze8 p;have l2:=ze8 q;have HT:=H_ (show Α ⟨p,b,q⟩=(if b then [45] else [43])++Γ p++[64]++Γ q by simp[Α,za2];omega);have⟨b1,b2,b3⟩:¬9223372036854775807<1+(Γ p).length/\¬9223372036854775807<1+(Γ p).length+1/\¬9223372036854775807<1+(Γ p).length+1+(Γ q).length:=by omega
   clear g1 g2;cases b
   ·go_enter func61,ntmps61
    go_wp2_with (first | (go_at_call 101;refine(zau _ _ _ _).mono ?_;rintro e w' ⟨rfl,rfl⟩))
    go_region_held3 (λw'=>w'.cell? (p_ w 0)=some (.int .i64 p)/\w'.cell? (p_ w 2)=some (.int .i64 q)/\w<w'.heap.size/\Below w w w') (first | assumption | exact MvS.start _ _ _ _ _ | exact MvS.step (by assumption) (by assumption))
     (first | ((go_at_call 104;refine(zmh _ _ (by assumption)).mono ?_;rintro e w1 ⟨rfl,hb1⟩)))
    go_wp2;go_ret;exact⟨zj0 43 p q _ HT.o,MvS.bel (by assumption)⟩
   ·go_enter func61,ntmps61
    go_wp2_with (first | (go_at_call 101;refine(zau _ _ _ _).mono ?_;rintro e w' ⟨rfl,rfl⟩))
    go_region_held3 (λw'=>w'.cell? (p_ w 0)=some (.int .i64 p)/\w'.cell? (p_ w 2)=some (.int .i64 q)/\w<w'.heap.size/\Below w w w') (first | assumption | exact MvS.start _ _ _ _ _ | exact MvS.step (by assumption) (by assumption))
     (first | ((go_at_call 104;refine(zmh _ _ (by assumption)).mono ?_;rintro e w1 ⟨rfl,hb1⟩)))
    go_wp2;go_ret;exact⟨zj0 45 p q _ HT.o,MvS.bel (by assumption)⟩
def zba:List UInt8:=[98,97,99,107,32]
def zdt:List UInt8:=[115,105,109,112,108,101]
def zak(a:Ac):List UInt8:=if Χ a then (if a.kind==0 then Α a.step else if a.kind==1 then (if 0<=a.count/\a.count<=99 then zba++Γ a.count.toNat else []) else zdt) else []
theorem zpf(p:Nat)(l:List UInt8)(h:l=zba++Γ p):
  Ending.returned (.string ({ data:=#[98,97,99,107,32] }++{ data:=(Γ p).toArray }))=.returned (.string ⟨l.toArray⟩):=by
 show Ending.returned (.string (ByteArray.mk [98,97,99,107,32].toArray++ByteArray.mk (Γ p).toArray))=_
 rw[a0_,h];rfl
def ziy:List UInt8->Option Nat
 | [a]=>if 48<=a.toNat/\a.toNat<=57 then some (a.toNat-48) else none
 | [a,b]=>if 48<=a.toNat/\a.toNat<=57/\48<=b.toNat/\b.toNat<=57 then some ((a.toNat-48)*10+(b.toNat-48)) else none
 | _=>none
theorem zvi:∀ n,n<100->ziy (Γ n)=some n:=by decide +kernel
def deMv:List UInt8->Option Mv
 | []=>none
 | c :: r=>
  match ziy (r.takeWhile (· !=64)),ziy ((r.dropWhile (· !=64)).drop 1) with
  | some p,some q=>some ⟨p,c==45,q⟩
  | _,_=>none
def za0(s:List UInt8):Option Mv:=(deMv s).filter λm=>za2 m&&Α m==s
theorem zm5(h:za2 m=true):∃ p q:Nat,p<=20/\q<=39/\m=⟨p,m.back,q⟩:=by
 obtain⟨p,b,q⟩:=m;simp[za2]at h;exact⟨p.toNat,q.toNat,by omega,by omega,by simp;omega⟩
theorem zug:∀ p,p<21->∀ q,q<40->∀ b:Bool,deMv (Α ⟨(p:Nat),b,(q:Nat)⟩)=some ⟨(p:Nat),b,(q:Nat)⟩:=by decide +kernel
theorem zv0(h:za2 m=true):deMv (Α m)=some m:=by
 obtain⟨p,q,hp,hq,e⟩:=zm5 h;rw[e];exact zug p (by omega) q (by omega) _
theorem zjf(s:List UInt8)(m:Mv):za0 s=some m↔za2 m=true/\Α m=s:=by
 unfold za0;rw[dg_]
 constructor
 ·rintro⟨_,h⟩
  simpa using h
 ·rintro⟨h1,h2⟩
  subst h2;exact⟨zv0 h1,by simp[h1]⟩
theorem ze6 {s:List UInt8}(h:∀ m,za2 m=true->Α m≠s):za0 s=none:=by
 cases he:za0 s with
 | none=>rfl
 | some m=>exact absurd ((zjf s m).1 he).2 (h m ((zjf s m).1 he).1)
theorem zoe(h:Α m≠[]):za2 m=true:=by
 cases hk:za2 m
 ·simp[Α,hk]at h
 ·rfl
theorem z0x(h:za2 m=true):Α m≠[]:=by
 simp[Α,h]
structure Env(w:World):Prop where
 most:∃ m,w.cell? (p_ 4 0)=some (.int .i64 m)
 syn:∃ a b,w.cell? (p_ 2 0)=some (.iface a b)
 rng:∃ a b,w.cell? (p_ 3 0)=some (.iface a b)
theorem Env.below {w':World}(h:Env w)(hb:Below w w w'):Env w':=by
 obtain⟨⟨m,h1⟩,⟨a,b,h2⟩,⟨c,d,h3⟩⟩:=h;exact⟨⟨m,(hb.cell (R_ w _ h1)).trans h1⟩,⟨a,b,(hb.cell (R_ w _ h2)).trans h2⟩,⟨c,d,(hb.cell (R_ w _ h3)).trans h3⟩⟩
theorem star : "*" ++ "errors.errorString" = "*errors.errorString" := by decide
theorem ztg (u : TypeId) (h : Tryz.prog.typeName? 3 u = some "*errors.errorString") : u = 229 :=
 typeName_ptr_named (nm := "errors.errorString") (by rw [star]; kernel_rfl) (by kernel_rfl) (by decide) u (by rw [star]; exact h)
theorem zta(h:w.ShapedOpen prog):∃ m,w.cell? (p_ 4 0)=some (.int .i64 m):=
 cell_of_shapedOpen_int (zero:=#[(0:Int)]) (t:=3) h (aa_ (by kernel_rfl)) (by kernel_rfl) rfl (by kernel_rfl) (by kernel_rfl) underlying3
theorem zon {n: String} {text: List UInt8} {r: List (String × DataW Unit)} {W: World} (h : laidMet prog ((n, .iface "*errors.errorString" (.ptr (.agg [.lit (.string text)]))) :: r) W) (hg : Tryz.prog.globalNamed n = some g)
  (ht:(Tryz.prog.globals[g]?).map (·.type)=some 106):∃ a b,W.cell? (p_ g 0)=some (.iface a b):=by
 obtain⟨a0,t0,hv0,hc0,ht0,_⟩:=laid_sentinel (g:=g) h hg ht underlying106 ztg underlying229 underlying231 rfl rfl underlying9 (by kernel_rfl) (by kernel_rfl);exact⟨_,_,by simpa using do_ hg hv0 0⟩
def zcn(l:List UInt8):Option Int:=match Lib.atoiAll l with | .ok v=>some v | _=>none
theorem zl7(l:List UInt8)(s:ByteArray)(hs:s=⟨l.toArray⟩)(v:Int)(w:World)(hl:l.length<=2097152)(h:zcn l=some v):
  Calls prog 85 #[.string s] w λe w'=>e=.returned (.tuple #[.int .i64 v,.nilIface])/\Below w w w':=by
 subst hs
 have h':Lib.atoiAll l=.ok v:=by
  unfold zcn at h
  split at h
  ·rename_i he;rw[he];simpa using h
  ·cases h
 refine(Tryz.strconv_Atoi_ok ⟨l.toArray⟩ (by show l.toArray.size<=_;simp;omega) v h' w).mono ?_;rintro e w' ⟨rfl,rfl|⟨t,rfl⟩⟩
 ·exact⟨rfl,B_ _ _⟩
 ·exact⟨rfl,Lib.bytesWorld_below _ _ _⟩
def RetNE(P:World->Prop)(e:Ending)(w':World):Prop:=∃ n t p,e=.returned (.tuple #[.int .i64 n,.iface t p])/\P w'
theorem zmi(l:List UInt8)(s:ByteArray)(hs:s=⟨l.toArray⟩)(w:World)(hE:Env w)(hl:l.length<=2097152)(h:zcn l=none):
  Calls prog 85 #[.string s] w (RetNE λw'=>Below w w w'):=by
 subst hs;have hz:(⟨l.toArray⟩:ByteArray).size<=281474976710656:=by show l.toArray.size<=_;simp;omega
 cases h':Lib.atoiAll l with
 | ok v=>simp[zcn,h'] at h
 | «syntax»=>
  obtain⟨a,b,hv⟩:=hE.syn;refine(Tryz.strconv_Atoi_syntax ⟨l.toArray⟩ hz h' _ w hv (.inr ⟨a,b,rfl⟩)).mono ?_;rintro e w' ⟨N,rfl,_,_,hb⟩;exact⟨_,_,_,rfl,hb⟩
 | range=>
  obtain⟨a,b,hv⟩:=hE.rng;refine(Tryz.strconv_Atoi_range ⟨l.toArray⟩ hz h' _ w hv (.inr ⟨a,b,rfl⟩)).mono ?_;rintro e w' ⟨N,rfl,_,_,hb⟩;exact⟨_,_,_,rfl,hb⟩
theorem zt8(l p:List UInt8)(s sep:ByteArray)(hs:s=⟨l.toArray⟩)(hp:sep=⟨p.toArray⟩)(w:World)(hE:Env w)(hl:l.length<=2097152):
  Calls prog 127 #[.string s,.string sep] w λe w'=>e=.returned (.tuple #[.string ⟨(Lib.cut l p).1.toArray⟩,.string ⟨(Lib.cut l p).2.1.toArray⟩,.bool (Lib.cut l p).2.2])/\Below w w w':=by
 subst hs hp;obtain⟨m,hm⟩:=hE.most;refine(Tryz.strings_Cut ⟨l.toArray⟩ ⟨p.toArray⟩ m w (by show l.toArray.size<_;simp;omega) hm).mono ?_;rintro e w' ⟨rfl,n,rfl⟩;exact⟨rfl,S_ (B_ _ _) _⟩
def Ψ:Mv:=⟨0,false,0⟩
def zbi(o:Option Mv):Value:=.tuple #[.agg #[.int .i64 (o.getD Ψ).which,.bool (o.getD Ψ).back,.int .i64 (o.getD Ψ).at_],.bool o.isSome]
theorem zs0:∀ p,p<21->∀ q,q<40->Lib.cut (Γ p++[64]++Γ q) [64]=(Γ p,Γ q,true):=by decide +kernel
theorem zix:∀ n,n<100->zcn (Γ n)=some (n:Int):=by decide +kernel
theorem zlb(h:za2 m=true):∃ c r,Α m=c :: r/\zcn (Lib.cut r [64]).1=some m.which/\zcn (Lib.cut r [64]).2.1=some m.at_/\(c==45)=m.back:=by
 obtain⟨p,q,hp,hq,e⟩:=zm5 h
 have ht:Α m=(if m.back then [45] else [43])++Γ p++[64]++Γ q:=by
  unfold Α;rw[l_ h,e];simp
 have hc:=zs0 p (by omega) q (by omega);refine⟨if m.back then 45 else 43,Γ p++[64]++Γ q,?_,?_,?_,?_⟩
 ·rw[ht];cases m.back<;>simp
 ·rw[hc];rw[e];exact zix p (by omega)
 ·rw[hc];rw[e];exact zix q (by omega)
 ·cases m.back<;>rfl
theorem z01:za0 []=none:=ze6 λ_ h e=>z0x h e
theorem zzq(h:zcn (Lib.cut r [64]).1=none):za0 (c :: r)=none:=
 ze6 λm hm e=>by
  obtain⟨c',r',h1,h2,_⟩:=zlb hm;rw[e]at h1;injection h1 with _ h1;subst h1;rw[h]at h2;cases h2
theorem zu3(h:zcn (Lib.cut r [64]).2.1=none):za0 (c :: r)=none:=
 ze6 λm hm e=>by
  obtain⟨c',r',h1,_,h2,_⟩:=zlb hm;rw[e]at h1;injection h1 with _ h1;subst h1;rw[h]at h2;cases h2
theorem zxc(h:Α m=c :: r):za0 (c :: r)=some m:=
 (zjf _ _).2 ⟨zoe (by rw[h];simp),h⟩
theorem rd_no {a b:Int}(h1:zcn (Lib.cut r [64]).1=some a)(h2:zcn (Lib.cut r [64]).2.1=some b)(h:Α ⟨a,c==45,b⟩≠c :: r):za0 (c :: r)=none:=
 ze6 λm hm e=>by
  obtain⟨c',r',g1,g2,g3,g4⟩:=zlb hm;rw[e]at g1;injection g1 with g0 g1;subst g0 g1;rw[h1]at g2;rw[h2]at g3;injection g2 with g2;injection g3 with g3;obtain⟨p,b',q⟩:=m;simp only at g2 g3 g4;subst g2 g3 g4;exact h e
theorem zxa(l p:List UInt8):(Lib.cut l p).1.length<=l.length/\(Lib.cut l p).2.1.length<=l.length:=by
 unfold Lib.cut
 split<;>simp
 omega
theorem ext1(c:UInt8)(r:List UInt8):ByteArray.extract ⟨(c :: r).toArray⟩ 1 (r.length+1)=⟨r.toArray⟩:=by
 apply bx_;simp[bn_]
theorem idx0(c:UInt8)(r:List UInt8)(h:0<(ByteArray.mk (c :: r).toArray).size):(ByteArray.mk (c :: r).toArray)[0]'h=c:=rfl
theorem eq45(c:UInt8):((c.toNat:Int)==45)=(c==45):=by
 rw[bz_];simp only[by_]
 constructor
 ·intro h;apply dl_.1;simpa using (by omega:c.toNat=45)
 ·intro h;subst h;rfl
theorem Below.set3 {a:World}(h:Below B a w)(hB:B<=g)(x y z:Value):Below B a (((w.setCell (p_ g 0) x).setCell (p_ g 1) y).setCell (p_ g 2) z):=
 ((h.setCell (p:=p_ g 0) hB x).setCell (p:=p_ g 1) hB y).setCell (p:=p_ g 2) hB z
def zge:=@Below.set3
theorem zum(l:List UInt8)(s:ByteArray)(hs:s=⟨l.toArray⟩)(w:World)(hE:Env w)(hl:l.length<=2097152):
  Calls prog 83 #[.string s] w λe w'=>e=.returned (zbi (za0 l))/\Below w w w':=by
 subst hs;have hb0:Q_ (∀ o,Below w w (w.alloc o)):=H_ λo=>(B_ _ _).alloc (le_ _) _
 cases l with
 | nil=>
  go_enter func83,ntmps83
  go_wp2;rw[z01];refine a_ (v:=zbi none) (by simp[results,results83,go_sem,zbi,Ψ]) rfl ⟨rfl,hb0.o _⟩
 | cons c r=>
  have⟨w0,hw0⟩:=xa_ w #[(0:Int),.bool false,(0:Int)] 67;have HB:Q_ (Below w w w0):=by rw[hw0];exact hb0.o _ |> H_
  have K:Q_ (Blk w (.cells #[(0:Int),.bool false,(0:Int)] 67) w0):=by rw[hw0];exact H_ (θ w _)
  have HE:Q_ (Env w0):=by rw[hw0];exact H_ (hE.below (hb0.o _))
  obtain⟨hc1,hc2⟩:=zxa r [64];have hr:r.length<=2097151:=by simpa using hl
  clear hE hb0
  go_enter func83,ntmps83
  go_wp2_with fail
  simp only[<-hw0];clear hw0;refine(zt8 r [64] _ _ (ext1 c r) rfl _ HE.o (by omega)).mono ?_;rintro e w1 ⟨rfl,hb⟩;replace HE:=H_ (HE.o.below hb);replace K:=K.kb hb;replace HB:=HB.ts hb;clear hb;have⟨p1,hp1⟩:=ex_ ((Lib.cut r [64]).1);have⟨p2,hp2⟩:=ex_ ((Lib.cut r [64]).2.1);have⟨p3,hp3⟩:=ex_ ((Lib.cut r [64]).2.2);rw[<-hp1,<-hp2,<-hp3];rw[<-hp1]at hc1;rw[<-hp2]at hc2;have HP1:=H_ hp1;have HP2:=H_ hp2;clear hp1 hp2 hp3;cases ha:zcn p1 with
  | none=>
   have HR:=H_ (zzq (c:=c) (r:=r) (by rw[<-HP1.o];exact ha));go_wp2_with fail
   refine(zmi p1 _ rfl _ HE.o (by omega) ha).mono ?_;rintro e w2 ⟨n,t,p,rfl,hb⟩;replace K:=K.kb hb;replace HB:=HB.ts hb;clear hb ha;have⟨wz,hwz⟩:=x3_ w2 w (0:Int) (.bool false) (0:Int);have KZ:=K.o.set3 (0:Int) (.bool false) (0:Int);have HZ:=H_ (zge HB.o (le_ _) (0:Int) (.bool false) (0:Int));rw[<-hwz]at KZ HZ;obtain⟨q0,q1,q2⟩:=KZ.c3;clear KZ;have⟨c0,c1,c2⟩:=K.o.c3;have⟨f0,f1,f2⟩:=K.o.f3;go_wp2;simp only[<-hwz];clear hwz;rw[HR.o];refine a_ (v:=zbi none) (by simp[results,results83,go_sem,q0,q1,q2,zbi,Ψ]) rfl ⟨rfl,HZ.o⟩
  | some a=>
   go_wp2_with fail
   refine(zl7 p1 _ rfl a _ (by omega) ha).mono ?_;rintro e w2 ⟨rfl,hb⟩;replace HE:=H_ (HE.o.below hb);replace K:=K.kb hb;replace HB:=HB.ts hb;have HA:=H_ ha;clear hb ha;cases ha:zcn p2 with
   | none=>
    (have HR:=H_ (zu3 (c:=c) (r:=r) (by rw[<-HP2.o];exact ha));go_wp2_with fail);refine(zmi p2 _ rfl _ HE.o (by omega) ha).mono ?_;rintro e w3 ⟨n,t,p,rfl,hb⟩;replace K:=K.kb hb;replace HB:=HB.ts hb;clear hb ha;have⟨wz,hwz⟩:=x3_ w3 w (0:Int) (.bool false) (0:Int);have KZ:=K.o.set3 (0:Int) (.bool false) (0:Int);have HZ:=H_ (zge HB.o (le_ _) (0:Int) (.bool false) (0:Int));rw[<-hwz]at KZ HZ;obtain⟨q0,q1,q2⟩:=KZ.c3;clear KZ;have⟨c0,c1,c2⟩:=K.o.c3;have⟨f0,f1,f2⟩:=K.o.f3;go_wp2;simp only[<-hwz];clear hwz;rw[HR.o];refine a_ (v:=zbi none) (by simp[results,results83,go_sem,q0,q1,q2,zbi,Ψ]) rfl ⟨rfl,HZ.o⟩
   | some b=>
    go_wp2_with fail
    refine(zl7 p2 _ rfl b _ (by omega) ha).mono ?_;rintro e w3 ⟨rfl,hb⟩;replace HE:=H_ (HE.o.below hb);replace K:=K.kb hb;replace HB:=HB.ts hb;have HA2:=H_ ha;clear hb ha;go_wp2_with fail
    simp only[idx0,eq45];have⟨bk,hbk⟩:=ex_ (c==45);rw[<-hbk];have⟨w4,hw4⟩:=xa_ w3 #[.int .i64 a,.bool bk,.int .i64 b] 67;rw[<-hw4];have hb:Below w3 w3 w4:=by rw[hw4];exact(B_ _ _).alloc (le_ _) _
    (have K4:Q_ (Blk w3 (.cells #[.int .i64 a,.bool bk,.int .i64 b] 67) w4):=by rw[hw4];exact H_ (θ _ _));replace K:=K.kb hb;have hsz3:=HB.o.size;replace HB:=HB.ts hb;have HBK:=H_ hbk;clear hb hw4 hbk HE;refine(zlf ⟨a,bk,b⟩ _).mono ?_;rintro e w5 ⟨rfl,hb⟩;replace K:=K.kb hb;replace K4:=K4.kb hb;replace HB:=HB.ts hb;clear hb;have⟨d0,d1,d2⟩:=K4.o.c3;cases hq:(Α ⟨a,bk,b⟩==c :: r)
    ·(have HR:=H_ (rd_no (c:=c) (r:=r) (by rw[<-HP1.o];exact HA.o) (by rw[<-HP2.o];exact HA2.o) (by rw[<-HBK.o];simpa using hq)));have⟨wz,hwz⟩:=x3_ w5 w (0:Int) (.bool false) (0:Int);have KZ:=K.o.set3 (0:Int) (.bool false) (0:Int);have HZ:=H_ (zge HB.o (le_ _) (0:Int) (.bool false) (0:Int));rw[<-hwz]at KZ HZ;obtain⟨q0,q1,q2⟩:=KZ.c3;clear KZ;have⟨c0,c1,c2⟩:=K.o.c3;have⟨f0,f1,f2⟩:=K.o.f3;go_wp2;simp only[<-hwz];clear hwz;rw[HR.o];refine a_ (v:=zbi none) (by simp[results,results83,go_sem,q0,q1,q2,zbi,Ψ]) rfl ⟨rfl,HZ.o⟩
    ·(have HR:=H_ (zxc (c:=c) (r:=r) (m:=⟨a,bk,b⟩) (by simpa using hq)));have⟨wz,hwz⟩:=x3_ w5 w a (.bool bk) b;have KZ:=K.o.set3 a (.bool bk) b;have HZ:=H_ (zge HB.o (le_ _) a (.bool bk) b);rw[<-hwz]at KZ HZ;obtain⟨q0,q1,q2⟩:=KZ.c3;clear KZ;have⟨c0,c1,c2⟩:=K.o.c3;have⟨f0,f1,f2⟩:=K.o.f3;go_wp2;simp only[<-hwz];clear hwz;rw[HR.o];refine a_ (v:=zbi (some ⟨a,bk,b⟩)) (by simp[results,results83,go_sem,q0,q1,q2,zbi,Ψ]) rfl ⟨rfl,HZ.o⟩
def zb4(o:Option Ac):Value:=.tuple #[.agg #[.int .i64 (o.getD zAc).kind,.int .i64 (o.getD zAc).step.which,.bool (o.getD zAc).step.back,.int .i64 (o.getD zAc).step.at_,.int .i64 (o.getD zAc).count],.bool o.isSome]
def zc0(l:List UInt8):Option Nat:=(ziy (l.drop 5)).filter λn=>decide (n<100)&&(zba++Γ n==l)
def za7(l:List UInt8):Option Ac:=match za0 l with
 | some m=>some ⟨0,m,0⟩
 | none=>if l==zdt then some ⟨2,Ψ,0⟩ else (zc0 l).map λn=>⟨1,Ψ,n⟩
theorem zki(l:List UInt8)(n:Nat):zc0 l=some n↔n<100/\zba++Γ n=l:=by
 unfold zc0;rw[dg_]
 constructor
 ·rintro⟨_,h⟩
  simpa using h
 ·rintro⟨h1,h2⟩
  subst h2;refine⟨?_,by simp[h1]⟩;rw[List.drop_left' (by rfl)];exact zvi n h1
theorem zhj(h:∀ n,n<100->zba++Γ n≠l):zc0 l=none:=by
 cases he:zc0 l with
 | none=>rfl
 | some n=>exact absurd ((zki l n).1 he).2 (h n ((zki l n).1 he).1)
theorem zmw:∀ n,n<100->Lib.hasPrefix (zba++Γ n) zba=true/\Lib.trimPrefix (zba++Γ n) zba=Γ n:=by decide +kernel
theorem z0w(h:Lib.hasPrefix l zba=false):zc0 l=none:=
 zhj λn hn e=>by have:=(zmw n hn).1;rw[e,h] at this;cases this
theorem zus(h:zcn (Lib.trimPrefix l zba)=none):zc0 l=none:=
 zhj λn hn e=>by have:=(zmw n hn).2;rw[e] at this;rw[this,zix n hn] at h;cases h
theorem zmf(n:Int):zak ⟨1,Ψ,n⟩=if 0<=n/\n<=99 then zba++Γ n.toNat else []:=by rfl
theorem zvu {n:Int}(h:zcn (Lib.trimPrefix l zba)=some n)(hne:zak ⟨1,Ψ,n⟩≠l):zc0 l=none:=
 zhj λk hk e=>by
  have:=(zmw k hk).2;rw[e]at this;rw[this,zix k hk]at h;injection h with h;subst h;rw[zmf,l_ (by omega)]at hne;exact hne e
theorem zqv {n:Int}(h:zak ⟨1,Ψ,n⟩=l)(hl:l≠[]):0<=n/\n<=99/\zc0 l=some n.toNat:=by
 rw[zmf]at h
 split at h
 ·rename_i hn
  exact⟨hn.1,hn.2,(zki l _).2 ⟨by omega,h⟩⟩
 ·exact absurd h.symm hl
theorem zpl(h:Α m=c :: r):c=43\/c=45:=by
 have hk:za2 m=true:=zoe (by rw[h];simp);unfold Α at h;rw[l_ hk]at h;cases hb:m.back<;>simp[hb] at h<;>simp[<-h.1]
theorem zvl:za0 zdt=none:=ze6 λm hm e=>by
 rcases zpl e with h|h<;>cases h
theorem z0n(h:zba++Γ n=l):za0 l=none:=ze6 λm hm e=>by
 rw[<-h]at e;rcases zpl (c:=98) (r:=[97,99,107,32]++Γ n) e with h|h<;>cases h
theorem zqk(h:za0 l=some m):za7 l=some ⟨0,m,0⟩:=by simp[za7,h]
theorem zoa(h:l=zdt):za7 l=some ⟨2,Ψ,0⟩:=by subst h;simp[za7,zvl]
theorem zj3(h1:za0 l=none)(h2:(l==zdt)=false)(h3:zc0 l=none):za7 l=none:=by simp[za7,h1,h2,h3]
theorem zrf(h3:zc0 l=some n):za7 l=some ⟨1,Ψ,n⟩:=by
 have h:=((zki l n).1 h3).2;have h1:=z0n h
 have h2:(l==zdt)=false:=by
  rw[<-h];rfl
 simp[za7,h1,h2,h3]
theorem Blk.set5 {e:TypeId} {x0 x1 x2 x3 x4:Value}(h:Blk g (.cells #[x0,x1,x2,x3,x4] e (0,0)) w)(a b c d f:Value):
  Blk g (.cells #[a,b,c,d,f] e (0,0)) (((((w.setCell (p_ g 0) a).setCell (p_ g 1) b).setCell (p_ g 2) c).setCell (p_ g 3) d).setCell (p_ g 4) f):=by
 have h':w.heap[g]?=_:=h
 show (((((w.setCell (p_ g 0) a).setCell (p_ g 1) b).setCell (p_ g 2) c).setCell (p_ g 3) d).setCell (p_ g 4) f).heap[g]?=_
 simp[World.setCell,V_,h']
theorem Below.set5 {a:World}(h:Below B a w)(hB:B<=g)(x y z u v:Value):Below B a (((((w.setCell (p_ g 0) x).setCell (p_ g 1) y).setCell (p_ g 2) z).setCell (p_ g 3) u).setCell (p_ g 4) v):=
 ((((h.setCell (p:=p_ g 0) hB x).setCell (p:=p_ g 1) hB y).setCell (p:=p_ g 2) hB z).setCell (p:=p_ g 3) hB u).setCell (p:=p_ g 4) hB v
def zee:=@Below.set5
theorem ztf(m:Mv):zbi (some m)=.tuple #[.agg #[.int .i64 m.which,.bool m.back,.int .i64 m.at_],.bool true]:=rfl
theorem zxt:zbi none=.tuple #[.agg #[(0:Int),.bool false,(0:Int)],.bool false]:=rfl
theorem zgv:zb4 none=.tuple #[.agg #[(0:Int),(0:Int),.bool false,(0:Int),(0:Int)],.bool false]:=rfl
def leafW:List UInt8->Nat
 | []=>0
 | c :: r=>if c.toNat=33 then min 2 (r.length+1) else if c.toNat=91 then (match (c :: r).findIdx? (·==93) with | some i=>i+1 | none=>0) else 1
def wordF(s:List UInt8):Option Int:=match s with
 | [c]=>if 97<=c.toNat/\c.toNat<=99 then some (16+((c.toNat:Int)-97)) else (zek [c]).map λt=>((t:Nat):Int)
 | s=>(zek s).map λt=>((t:Nat):Int)
theorem zzu:∀ t,t<16->(Ρ t).length<=5/\(Ρ t)≠[]/\leafW (Ρ t)=(Ρ t).length/\wordF (Ρ t)=some ((t:Nat):Int)/\((Ρ t).head?=some 33->(Ρ t).length=2)/\((Ρ t).head?=some 91->(Ρ t).findIdx? (·==93)=some ((Ρ t).length-1)) /\
  ((Ρ t).head?≠some 33->(Ρ t).head?≠some 91->(Ρ t).length=1)/\(Ρ t).head?≠some 40:=by decide +kernel
theorem ends_len {p:PR}(h:Ends p){s r:List UInt8}{e:List Int}(hs:p s=some (e,r)):r.length+1<=s.length:=by
 obtain⟨k,h1,h2,h3⟩:=h _ _ _ hs;rw[h3,af_];omega
def ς:KT->Nat->List UInt8
 | .leaf n,_=>if n<=15 then Ρ n.toNat else [UInt8.ofNat (97+(n-16).toNat)]
 | .star t,_=>ς t 3++[42]
 | .bin p a b,s=>if (if p then 1 else 2)<s then 40 :: (ς a (if p then 1 else 2)++(if p then 43 else 59) :: ς b ((if p then 1 else 2)+1))++[41]
   else ς a (if p then 1 else 2)++(if p then 43 else 59) :: ς b ((if p then 1 else 2)+1)
theorem zle(n:Int)(s:Nat):ς (.leaf n) s=if n<=15 then Ρ n.toNat else [UInt8.ofNat (97+(n-16).toNat)]:=rfl
theorem zma(t:KT)(s:Nat):ς (.star t) s=ς t 3++[42]:=rfl
theorem zig(a b:KT):ς (.bin true a b) 1=ς a 1++43 :: ς b 2:=rfl
theorem zkv(a b:KT):ς (.bin true a b) 2=40 :: (ς (.bin true a b) 1)++[41]:=rfl
theorem zlp(a b:KT):ς (.bin true a b) 3=40 :: (ς (.bin true a b) 1)++[41]:=rfl
theorem zhr(a b:KT):ς (.bin false a b) 1=ς a 2++59 :: ς b 3:=rfl
theorem zld(a b:KT):ς (.bin false a b) 2=ς a 2++59 :: ς b 3:=rfl
theorem zky(a b:KT):ς (.bin false a b) 3=40 :: (ς (.bin false a b) 1)++[41]:=rfl
theorem zie:∀ (t:KT),ς t 0=ς t 1
 | .leaf _=>rfl
 | .star _=>rfl
 | .bin true a b=>rfl
 | .bin false a b=>rfl
def KT.leaves:KT->Nat
 | .leaf _=>1
 | .star t=>t.leaves
 | .bin _ a b=>a.leaves+b.leaves
theorem zjg:∀ t:KT,2*t.leaves<=t.size+1
 | .leaf _=>by simp[KT.leaves,KT.size]
 | .star t=>by have:=zjg t;simp[KT.leaves,KT.size];omega
 | .bin _ a b=>by have:=zjg a;have:=zjg b;simp[KT.leaves,KT.size];omega
theorem zi2:∀ {t:KT},t.ok 0=true->∀ s,s<=3->(ς t s).length<=3*t.size+2*t.leaves
 | .leaf n,h,s,_=>by
  simp only[KT.ok,d_,m_]at h;rw[zle];simp only[KT.size,KT.leaves]
  split
  ·have:=(zzu n.toNat (by omega)).1
   omega
  ·simp
 | .star t,h,s,_=>by
  have:=zi2 (t:=t) h 3 (by omega);rw[zma];simp only[KT.size,KT.leaves,i_,y_,O_];omega
 | .bin p a b,h,s,_=>by
  simp only[KT.ok,d_]at h;have ha:=zi2 h.1;have hb:=zi2 h.2;simp only[KT.size,KT.leaves];have hs:s=0\/s=1\/s=2\/s=3:=by omega
  cases p
  ·have ha2:=ha 2 (by omega)
   have hb3:=hb 3 (by omega);rcases hs with rfl|rfl|rfl|rfl<;>simp[ς]<;>omega
  ·have ha2:=ha 1 (by omega)
   have hb3:=hb 2 (by omega);rcases hs with rfl|rfl|rfl|rfl<;>simp[ς]<;>omega
theorem zd6 {t:KT}(h:t.ok 0=true)(hs:t.size<=40)(s:Nat)(h3:s<=3):(ς t s).length<=199:=by
 have h1:=zi2 h s h3;have h2:=zjg t;omega
def zl0(l:List Nat)(r:List UInt8):Prop:=∀ c t,r=c :: t->c.toNat ∉ l
theorem zl0.mono {l m:List Nat}(h:zl0 m r)(hs:∀ x∈l,x∈m):zl0 l r:=λc t e hc=>h c t e (hs _ hc)
section
theorem zlt(w:World)(x:Nat):
  Sem.run prog (convert 40 9 (.slice (some ⟨w,0,none⟩) 1 1)) (w.alloc (.cells #[.int .u8 (x:Int)] 5))=.ok (.string ⟨#[UInt8.ofNat x]⟩) (w.alloc (.cells #[.int .u8 (x:Int)] 5)):=by
 have h:=zgc (P:=prog) 40 9 5 underlying40 underlying5 underlying9 w [(x:Int)];simp only[y_,O_,cd_,b7_,G_,bh_]at h;exact h
theorem zbn(l t:List UInt8):ByteArray.mk l.toArray++ByteArray.mk t.toArray=ByteArray.mk (l++t).toArray:=by
 apply bx_;simp
theorem SlI.cellS {lo hi cap b off:Nat}(h:SlI lo hi w (.slice (some ⟨b,off,none⟩) n cap) xs)(i:Nat)(hi':i<xs.length):w.cell? (p_ b (off+i))=some (.int .i64 xs[i]):=by
 obtain⟨b',off',e,_,_,_,hc⟩:=h.get i hi';injection e with e;injection e with e1 e2;subst e1 e2;exact hc
def TxtC(t:KT):Prop:=∀ (k lo hi:Nat) (v:Value) (w:World),SlI lo hi w v t.post->t.ok 0=true->t.size<=40->k<=3->hi<=w ->
 Calls prog 103 #[v,.int .i64 k] w λe w'=>e=.returned (.string ⟨(ς t k).toArray⟩)/\Below w w w'
theorem zul:∀ t:KT,TxtC t:=by
 intro t
 induction t with
 | leaf n=>
  intro k lo hi v w hx hok hs hk hh;simp only[KT.ok,d_,m_]at hok;obtain⟨hn0,hn18⟩:=hok;obtain⟨a,cap,rfl,_,_⟩:=τ hx;obtain⟨b,off,rfl,hb1,hb2,hb3,hcell⟩:=hx.get 0 (by simp[KT.post]);have hc1:w.cell? (p_ b off)=some (.int .i64 n):=hcell;have hlen:(KT.leaf n).post.length=1:=rfl;rw[hlen];clear hx hlen hcell;by_cases h15:n<=15
  ·obtain⟨m,rfl⟩:∃ m:Nat,n=m:=⟨n.toNat,by omega⟩
   have HT:=H_ (show ς (.leaf (m:Int)) k=Ρ m by rw[zle,l_ h15];rfl)
   go_enter func103,ntmps103
   go_wp2_with fail
   refine(zi1 m (by omega) w).mono ?_;rintro e w1 ⟨rfl,hb⟩;have HB:=H_ hb;clear hb;go_wp2;go_ret;exact⟨by rw[HT.o];rfl,HB.o⟩
  ·have h3:n=16\/n=17\/n=18:=by omega
   rcases h3 with rfl|rfl|rfl
   ·(have hcv:Sem.run prog (convert 40 9 (.slice (some ⟨w,0,none⟩) 1 1)) (w.alloc (.cells #[.int .u8 97] 5))=.ok (.string ⟨#[97]⟩) (w.alloc (.cells #[.int .u8 97] 5)):=zlt w 97);go_enter func103,ntmps103
    go_wp2;go_ret;exact⟨rfl,ε _ _⟩
   ·(have hcv:Sem.run prog (convert 40 9 (.slice (some ⟨w,0,none⟩) 1 1)) (w.alloc (.cells #[.int .u8 98] 5))=.ok (.string ⟨#[98]⟩) (w.alloc (.cells #[.int .u8 98] 5)):=zlt w 98);go_enter func103,ntmps103
    go_wp2;go_ret;exact⟨rfl,ε _ _⟩
   ·(have hcv:Sem.run prog (convert 40 9 (.slice (some ⟨w,0,none⟩) 1 1)) (w.alloc (.cells #[.int .u8 99] 5))=.ok (.string ⟨#[99]⟩) (w.alloc (.cells #[.int .u8 99] 5)):=zlt w 99);go_enter func103,ntmps103
    go_wp2;go_ret;exact⟨rfl,ε _ _⟩
 | star x ih=>
  intro k lo hi v w hx hok hs hk hh;have hokx:x.ok 0=true:=hok;simp only[KT.size]at hs;have hlen:(KT.star x).post.length=x.size+1:=by rw[zar];rfl
  obtain⟨a,cap,rfl,_,hcm⟩:=τ hx;unfold maxLen at hcm;obtain⟨b,off,rfl⟩:=hx.notNil (by omega)
  have HSX:Q_ (SlI lo hi w (.slice (some ⟨b,off,none⟩) x.size cap) x.post):=H_ (by
   have h2:=hx.sub 0 x.size (ai_ _) (by omega)
   simpa [KT.post,<-zar] using h2)
  have hc1:w.cell? (p_ b (off+x.size))=some (.int .i64 21):=by
   have:=hx.cellS x.size (by omega);rw[this];simp[KT.post,<-zar]
  have e4:x.size<=cap:=by obtain⟨_,_,e,h,_⟩:=hx;injection e with _ _ e;omega
  have HTX:=H_ (show ς (.star x) k=ς x 3++[42] from zma x k);rw[hlen];have hb3:(ς x 3).length<=199:=zd6 hokx (by omega) 3 (by omega);have IH:=H_ ih;clear ih hok hx
  go_enter func103,ntmps103
  go_wp2_with fail
  refine(IH.o 3 lo hi _ w HSX.o hokx (by omega) (by omega) hh).mono ?_;rintro e w1 ⟨rfl,hb⟩;have HB:=H_ hb;clear hb;go_wp2;go_ret;exact⟨by rw[HTX.o,<-zbn];rfl,HB.o⟩
 | bin p x y ihx ihy=>
  intro k lo hi v w hx hok hs hk hh;simp only[KT.ok,d_]at hok;obtain⟨hokx,hoky⟩:=hok;simp only[KT.size]at hs;have hlen:(KT.bin p x y).post.length=x.size+y.size+1:=by rw[zar];rfl
  have HALF:=H_ (show Calls prog 156 #[v] w (zhg λa b w2=>Below w w w2/\SlI lo hi w2 a x.post/\SlI lo hi w2 b y.post) from
   (zgy lo hi v 0 p x y w hx (by omega) hoky).mono (by rintro e w2 ⟨va,vb,rfl,⟨m,rfl⟩,ha,hb⟩;exact⟨va,vb,rfl,S_ (B_ _ _) m,ha,hb⟩))
  obtain⟨a,cap,rfl,_,hcm⟩:=τ hx;unfold maxLen at hcm;obtain⟨b,off,rfl⟩:=hx.notNil (by omega)
  have hc1:w.cell? (p_ b (off+(x.size+y.size)))=some (.int .i64 (KT.op p)):=by
   have:=hx.cellS (x.size+y.size) (by omega);rw[this];simp[KT.post,<-zar]
  rw[hlen]at HALF ⊢;have hb1:(ς x 1).length<=199:=zd6 hokx (by omega) 1 (by omega);have hb2:(ς x 2).length<=199:=zd6 hokx (by omega) 2 (by omega);have hc2:(ς y 2).length<=199:=zd6 hoky (by omega) 2 (by omega);have hc3:(ς y 3).length<=199:=zd6 hoky (by omega) 3 (by omega);have IHX:=H_ ihx;have IHY:=H_ ihy;clear ihx ihy hx;cases p
  ·have hop:KT.op false=19:=rfl
   rw[hop]at hc1
   have HSIMPLE:=H_ (show ¬2<k->ς (.bin false x y) k=ς x 2++[59]++ς y 3 from λh=>by
    (have h3:k=0\/k=1\/k=2:=by omega);rcases h3 with rfl|rfl|rfl<;>first|(exfalso;omega)|simp[zie,zhr,zld,zky])
   have HBR:=H_ (show 2<k->ς (.bin false x y) k=[40]++(ς x 2++[59]++ς y 3)++[41] from λh=>by
    (have h3:k=2\/k=3:=by omega);rcases h3 with rfl|rfl<;>first|(exfalso;omega)|simp[zie,zhr,zld,zky])
   go_enter func103,ntmps103
   go_wp2_with fail
   refine HALF.o.mono ?_;rintro e w2 ⟨va,vb,rfl,h_,ha,hb⟩;have hs2:=h_.size;have HB:=H_ h_;have HA:=H_ ha;have HY:=H_ hb;obtain⟨aa,ac,rfl,_,_⟩:=τ ha;obtain⟨ba,bc,rfl,_,_⟩:=τ hb;clear h_ ha hb HALF;go_wp2_with fail
   refine(IHX.o 2 lo hi _ w2 HA.o hokx (by omega) (by omega) (by omega)).mono ?_;rintro e w3 ⟨rfl,hb⟩;have hs3:=hb.size;replace HB:=HB.ts hb;replace HY:=H_ (HY.o.below hb (by omega));clear hb HA;go_wp2_with fail
   refine(IHY.o 3 lo hi _ w3 HY.o hoky (by omega) (by omega) (by omega)).mono ?_;rintro e w4 ⟨rfl,hb⟩;replace HB:=HB.ts hb;clear hb HY;by_cases hk1:2<k
   ·(have hk2:(2:Int)<(k:Int):=by omega);have HF:=H_ (HBR.o hk1);go_wp2;go_ret;exact⟨by rw[HF.o,<-zbn,<-zbn,<-zbn,<-zbn];rfl,HB.o⟩
   ·(have hk2:¬(2:Int)<(k:Int):=by omega);have HF:=H_ (HSIMPLE.o hk1);go_wp2;go_ret;exact⟨by rw[HF.o,<-zbn,<-zbn];rfl,HB.o⟩
  ·have hop:KT.op true=20:=rfl
   rw[hop]at hc1
   have HSIMPLE:=H_ (show ¬1<k->ς (.bin true x y) k=ς x 1++[43]++ς y 2 from λh=>by
    (have h3:k=0\/k=1\/k=2:=by omega);rcases h3 with rfl|rfl|rfl<;>first|(exfalso;omega)|simp[zie,zig,zkv,zlp])
   have HBR:=H_ (show 1<k->ς (.bin true x y) k=[40]++(ς x 1++[43]++ς y 2)++[41] from λh=>by
    (have h3:k=2\/k=3:=by omega);rcases h3 with rfl|rfl<;>first|(exfalso;omega)|simp[zie,zig,zkv,zlp])
   go_enter func103,ntmps103
   go_wp2_with fail
   refine HALF.o.mono ?_;rintro e w2 ⟨va,vb,rfl,h_,ha,hb⟩;have hs2:=h_.size;have HB:=H_ h_;have HA:=H_ ha;have HY:=H_ hb;obtain⟨aa,ac,rfl,_,_⟩:=τ ha;obtain⟨ba,bc,rfl,_,_⟩:=τ hb;clear h_ ha hb HALF;go_wp2_with fail
   refine(IHX.o 1 lo hi _ w2 HA.o hokx (by omega) (by omega) (by omega)).mono ?_;rintro e w3 ⟨rfl,hb⟩;have hs3:=hb.size;replace HB:=HB.ts hb;replace HY:=H_ (HY.o.below hb (by omega));clear hb HA;go_wp2_with fail
   refine(IHY.o 2 lo hi _ w3 HY.o hoky (by omega) (by omega) (by omega)).mono ?_;rintro e w4 ⟨rfl,hb⟩;replace HB:=HB.ts hb;clear hb HY;by_cases hk1:1<k
   ·(have hk2:(1:Int)<(k:Int):=by omega);have HF:=H_ (HBR.o hk1);go_wp2;go_ret;exact⟨by rw[HF.o,<-zbn,<-zbn,<-zbn,<-zbn];rfl,HB.o⟩
   ·(have hk2:¬(1:Int)<(k:Int):=by omega);have HF:=H_ (HSIMPLE.o hk1);go_wp2;go_ret;exact⟨by rw[HF.o,<-zbn,<-zbn];rfl,HB.o⟩
theorem zys(lo hi:Nat)(v:Value)(t:KT)(w:World)(hx:SlI lo hi w v t.post)(hok:t.ok 0=true)(hs:t.size<=40)(hh:hi<=w):
  Calls prog 53 #[v] w λe w'=>e=.returned (.string ⟨(ς t 1).toArray⟩)/\Below w w w':=by
 have hkv:=znh hok hs;have hl:t.post.length<=40:=by rw[zar];exact hs
 obtain⟨a,cap,rfl,_,_⟩:=τ hx;have HX:=H_ hx;clear hx
 go_enter func53,ntmps53
 go_wp2_with fail
 refine(zby _ _ _ t.post _ HX.o (by omega)).mono ?_;rintro e w1 ⟨rfl,rfl⟩;rw[hkv];go_wp2_with fail
 refine(zul t 0 lo hi _ w HX.o hok hs (by omega) hh).mono ?_;rintro e w2 ⟨rfl,hb⟩;have HB:=H_ hb;have HT:=H_ (zie t);clear hb;go_wp2;go_ret;exact⟨by rw[HT.o];rfl,HB.o⟩
end
def zbr(e:List Int):List UInt8:=if μ e then ς (Κ e) 1 else []
theorem zp1 {t:KT}(h:t.ok 0=true)(hs:t.size<=40):zbr t.post=ς t 1:=by
 rw[zbr,l_ (znh h hs),zdk h]
theorem zl9(lo hi:Nat)(v:Value)(es:List Int)(w:World)(hx:SlI lo hi w v es)(hm:es.length<=1048576)(hh:hi<=w):
  Calls prog 53 #[v] w λe w'=>e=.returned (.string ⟨(zbr es).toArray⟩)/\Below w w w':=by
 cases hk:μ es with
 | true=>
  obtain⟨t,h1,h2,_,h4⟩:=zez hk;subst h2;rw[zp1 h1 h4];exact zys lo hi v t w hx h1 h4 hh
 | false=>
  have HT:=H_ (show zbr es=[] by rw[zbr,hk];rfl);obtain⟨a,cap,rfl,_,_⟩:=τ hx;have HX:=H_ hx;clear hx
  go_enter func53,ntmps53
  go_wp2_with fail
  refine(zby _ _ _ es _ HX.o (by omega)).mono ?_;rintro e w1 ⟨rfl,rfl⟩;rw[hk];go_wp2;go_ret;exact⟨by rw[HT.o];rfl,B_ _ _⟩
def zfe(n:Int):Bool:=decide (0<=n)&&decide (n<=3)
def zc7(i:Nat)(x:Int):Bool:=if i%2=0 then zfe x else zae x
def zds:Nat->List Int->Bool
 | _,[]=>true
 | i,x :: r=>zc7 i x&&zds (i+1) r
def zbm(xs:List Int):Bool:=decide (xs.length%2=1)&&decide (xs.length<=41)&&zds 0 xs
theorem zpp(xs:List Int)(k:Nat)(h:k<xs.length):zds k (xs.drop k)=(zc7 k xs[k]&&zds (k+1) (xs.drop (k+1))):=by
 rw[q_ h];rfl
theorem zn4(xs:List Int)(k:Nat)(h:xs.length<=k):zds k (xs.drop k)=true:=by
 rw[ah_ h];rfl
theorem zoy(xs:List Int):∀ (i k:Nat) (h:k<xs.length),zds i xs=true->zc7 (i+k) xs[k]=true:=by
 induction xs with
 | nil=>intro i k h;simp at h
 | cons x r ih=>
  intro i k h ht;simp only[zds,d_]at ht;cases k with
  | zero=>exact ht.1
  | succ k=>
   have:=ih (i+1) k (by simpa using h) ht.2;rw[show i+(k+1)=i+1+k by omega];exact this
theorem zoz(h:zbm xs=true)(k:Nat)(hk:k<xs.length)(hp:k%2=0):0<=xs[k]/\xs[k]<=3:=by
 simp only[zbm,d_]at h;have:=zoy xs 0 k hk h.2
 simpa [zc7,hp,zfe] using this
theorem zql(h:zbm xs=true)(k:Nat)(hk:k<xs.length)(hp:¬k%2=0):16<=xs[k]/\xs[k]<=18:=by
 simp only[zbm,d_]at h;have:=zoy xs 0 k hk h.2
 simpa [zc7,hp,zae] using this
theorem zwt(h:zbm xs=true):xs.length%2=1/\xs.length<=41:=by
 simp only[zbm,d_,m_]at h;exact h.1
theorem znb(n:Int)(w:World):
  Calls prog 184 #[.int .i64 n] w λe w'=>e=.returned (.bool (zfe n))/\w=w':=by
 go_enter func184,ntmps184
 by_cases h1:0<=n
 ·by_cases h2:n<=3
  ·go_wp2
   go_ret;exact⟨ξ (by simp[zfe,h1,h2]),rfl⟩
  ·go_wp2
   go_ret;exact⟨ξ (by simp[zfe];omega),rfl⟩
 ·go_wp2
  go_ret;exact⟨ξ (by simp[zfe];omega),rfl⟩
theorem zrz(lo hi:Nat)(v:Value)(xs:List Int)(w:World)(hx:SlI lo hi w v xs)(hm:xs.length<=1048576):
  Calls prog 142 #[v] w λe w'=>e=.returned (.bool (zbm xs))/\w=w':=by
 obtain⟨a,cap,rfl,hcap,hcm,hc⟩:=hx.open;clear hx hcm hcap;by_cases h1:xs.length%2=1
 ·have h1':((xs.length:Int)%2 !=1)=false:=by simp;omega
  by_cases h2:xs.length<=41
  ·have H1:=H_ h1
   clear h1
   go_enter func142,ntmps142
   go_wp2
   go_loop [16] (λi=>∃ k:Nat,k<=xs.length/\i=.int .i64 k/\Q_ (zds k (xs.drop k)=zds 0 xs)) (λi=>xs.length-(intOf i).toNat)
   case atStart=>exact⟨0,by omega,rfl,H_ rfl⟩
   case round=>
    obtain⟨k,hk,rfl,HT⟩:=hrel;by_cases hlt:k<xs.length
    ·(obtain⟨b,off,rfl,_,_,_,hcell⟩:=hc k hlt);have HS:=H_ (zpp xs k hlt);clear hc;by_cases hp:k%2=0
     ·(have hp1:((k:Int)%2==0)=true:=by simp;omega);(have hp2:((k:Int)%2==1)=false:=by simp;omega);have HP:=H_ hp;clear hp;cases hv:zfe xs[k]
      ·go_wp2_with (go_at_call 184;refine(znb _ _).mono ?_;rintro e w' ⟨rfl,rfl⟩)
       go_ret;exact⟨ξ (by simp[zbm,<-HT.o,HS.o,zc7,HP.o,hv]),rfl⟩
      ·go_wp2_with (go_at_call 184;refine(znb _ _).mono ?_;rintro e w' ⟨rfl,rfl⟩)
       go_round
       (case rel=>exact⟨k+1,by omega,by go_num,H_ (by rw[<-HT.o,HS.o];simp[zc7,HP.o,hv])⟩);case measure=>simp[intOf];omega
     ·(have hp1:((k:Int)%2==0)=false:=by simp;omega);(have hp2:((k:Int)%2==1)=true:=by simp;omega);have HP:=H_ hp;clear hp;cases hv:zae xs[k]
      ·go_wp2_with (go_at_call 176;refine(zbt _ _).mono ?_;rintro e w' ⟨rfl,rfl⟩)
       go_ret;exact⟨ξ (by simp[zbm,<-HT.o,HS.o,zc7,HP.o,hv]),rfl⟩
      ·go_wp2_with (go_at_call 176;refine(zbt _ _).mono ?_;rintro e w' ⟨rfl,rfl⟩)
       go_round
       (case rel=>exact⟨k+1,by omega,by go_num,H_ (by rw[<-HT.o,HS.o];simp[zc7,HP.o,hv])⟩);case measure=>simp[intOf];omega
    ·go_wp2
     go_ret;exact⟨ξ (by simp[zbm,<-HT.o,zn4 xs k (by omega),H1.o,h2]),rfl⟩
  ·go_enter func142,ntmps142
   go_wp2;go_ret;exact⟨ξ (by simp[zbm];omega),rfl⟩
 ·have h1':((xs.length:Int)%2 !=1)=true:=by simp;omega
  go_enter func142,ntmps142
  go_wp2;go_ret;exact⟨ξ (by simp[zbm];omega),rfl⟩
theorem zw7(xs:List Int)(k:Nat)(h:k<xs.length)(hp:k%2=0):zc7 k xs[k]=inB xs[k] 0 3:=by
 simp[zc7,hp,zfe,inB]
theorem zxl(xs:List Int)(k:Nat)(h:k<xs.length)(hp:¬k%2=0):zc7 k xs[k]=inB xs[k] 16 18:=by
 simp[zc7,hp,zae,inB]
theorem zmz(lo hi:Nat)(v:Value)(xs:List Int)(w:World)(hx:SlI lo hi w v xs)(hm:xs.length<=1048576):
  Calls prog 116 #[v] w λe w'=>e=.returned (.bool (zbm xs))/\w=w':=by
 obtain⟨a,cap,rfl,hcap,hcm,hc⟩:=hx.open;clear hx hcm hcap
 go_enter func116,ntmps116
 go_wp2
 go_loop [3] (λi=>∃ k:Nat,k<=xs.length/\i=.int .i64 k/\Q_ (zds k (xs.drop k)=zds 0 xs)) (λi=>xs.length-(intOf i).toNat)
 case atStart=>exact⟨0,by omega,rfl,H_ rfl⟩
 case round=>
  obtain⟨k,hk,rfl,HT⟩:=hrel;by_cases hlt:k<xs.length
  ·obtain⟨b,off,rfl,_,_,_,hcell⟩:=hc k hlt
   have HS:=H_ (zpp xs k hlt);clear hc;by_cases hp:k%2=0
   ·(have hp1:((k:Int)%2==0)=true:=by simp;omega);(have hp2:((k:Int)%2==1)=false:=by simp;omega);have HV:=H_ (zw7 xs k hlt hp);clear hp;cases hv:inB xs[k] 0 3
    ·go_wp2_with (go_at_call 101;refine(zau _ _ _ _).mono ?_;rintro e w' ⟨rfl,rfl⟩)
     go_ret;exact⟨ξ (by simp[zbm,<-HT.o,HS.o,HV.o,hv]),rfl⟩
    ·go_wp2_with (go_at_call 101;refine(zau _ _ _ _).mono ?_;rintro e w' ⟨rfl,rfl⟩)
     go_round
     (case rel=>exact⟨k+1,by omega,by go_num,H_ (by rw[<-HT.o,HS.o];simp[HV.o,hv])⟩);case measure=>simp[intOf];omega
   ·(have hp1:((k:Int)%2==0)=false:=by simp;omega);(have hp2:((k:Int)%2==1)=true:=by simp;omega);have HV:=H_ (zxl xs k hlt hp);clear hp;cases hv:inB xs[k] 16 18
    ·go_wp2_with (go_at_call 101;refine(zau _ _ _ _).mono ?_;rintro e w' ⟨rfl,rfl⟩)
     go_ret;exact⟨ξ (by simp[zbm,<-HT.o,HS.o,HV.o,hv]),rfl⟩
    ·go_wp2_with (go_at_call 101;refine(zau _ _ _ _).mono ?_;rintro e w' ⟨rfl,rfl⟩)
     go_round
     (case rel=>exact⟨k+1,by omega,by go_num,H_ (by rw[<-HT.o,HS.o];simp[HV.o,hv])⟩);case measure=>simp[intOf];omega
  ·have HE:=H_ (zn4 xs k (by omega))
   by_cases h1:xs.length%2=1
   ·(have h1':((xs.length:Int)%2==1)=true:=by simp;omega);(have H1:=H_ h1;clear h1;by_cases h2:xs.length<=41)
    all_goals
     go_wp2;go_ret;exact⟨ξ (by simp[zbm,<-HT.o,HE.o,H1.o];omega),rfl⟩
   ·(have h1':((xs.length:Int)%2==1)=false:=by simp;omega);go_wp2;go_ret;exact⟨ξ (by simp[zbm];omega),rfl⟩
def zdy(i:Nat)(x:Int):UInt8:=UInt8.ofNat (if i%2=0 then 48+x else 81+x).toNat
def zd8:Nat->List Int->List UInt8
 | _,[]=>[]
 | i,x :: r=>zdy i x :: zd8 (i+1) r
def zeq(xs:List Int):List UInt8:=if zbm xs then zd8 0 xs else []
theorem z0b(ys:List Int)(x:Int):∀ i,zd8 i (ys++[x])=zd8 i ys++[zdy (i+ys.length) x]:=by
 induction ys with
 | nil=>intro i;simp[zd8]
 | cons y r ih=>intro i;simp only[al_,zd8,ih,y_];rw[show i+1+r.length=i+(r.length+1) by omega]
theorem zke(xs:List Int)(k:Nat)(h:k<xs.length):zd8 0 (xs.take (k+1))=zd8 0 (xs.take k)++[zdy k xs[k]]:=by
 rw[bg_,c_ h,Option.toList_some,z0b,ag_,G_,dm_ (by omega)]
theorem zoj(l m:List UInt8):(Value.string ({ data:=l.toArray }++{ data:=m.toArray }))=.string ⟨(l++m).toArray⟩:=by
 rw[a0_]
theorem zts(w:World)(n:Int):Sem.run prog (convert 40 9 (.slice (some ⟨w,0,none⟩) 1 1)) (w.alloc (.cells #[.int .u8 n] 5)) =
    .ok (.string ⟨[UInt8.ofNat n.toNat].toArray⟩) (w.alloc (.cells #[.int .u8 n] 5)):=by
  have h:=cz_ (P:=prog) (w:=w.alloc (.cells #[.int .u8 n] 5)) 40 5 underlying40 underlying5 w 0 1 1 [n] rfl
    (by intro i hi; obtain rfl : i = 0 := by omega
        rw[World.cell?,bu_];rfl) 9 underlying9
  exact h
theorem zvy(lo hi:Nat)(v:Value)(xs:List Int)(w:World)(hx:SlI lo hi w v xs)(hm:xs.length<=1048576)(hhi:hi<=w):
  Calls prog 60 #[v] w λe w'=>e=.returned (.string ⟨(zeq xs).toArray⟩)/\Below w w w':=by
 have hx0:=hx;obtain⟨a,cap,rfl,hcap,hcm,hc⟩:=hx.open;clear hx hcm hcap hc;cases hv:zbm xs
 ·have HX:=H_ hx0
  clear hx0
  go_enter func60,ntmps60
  go_wp2;refine wp_loop_once ?_;by_cases hl:0<xs.length
  all_goals
   go_wp2_with (go_at_call 116;refine(zmz _ _ _ xs _ HX.o hm).mono ?_;rintro e w' ⟨rfl,rfl⟩)
   go_ret;exact⟨za3 (a:=[]) (by simp[zeq,hv]),B_ _ _⟩
 ·go_enter func60,ntmps60
  go_wp2;go_loopw [3,4] (λs i wr=>∃ k:Nat,∃ l:List UInt8,k<=xs.length/\i=.int .i64 k/\s=.string ⟨l.toArray⟩/\l.length<=k/\Q_ (l=zd8 0 (xs.take k))/\Below w w wr) (λ_ i _=>xs.length-(intOf i).toNat)
  case atStart=>exact⟨0,[],by omega,rfl,rfl,le_ _,H_ rfl,B_ _ _⟩
  case round=>
   obtain⟨k,l,hk,rfl,rfl,hll,HL,hb⟩:=hrel;have hx1:=hx0.below hb hhi;by_cases hlt:k<xs.length
   ·(obtain⟨b,off,rfl,_,_,hbs,hcell⟩:=hx1.get k hlt);(have HX:=H_ hx1;have hcv:=λn=>zts wr n);have HB:=H_ (λo=>hb.alloc hb.size o);clear hx0 hx1 hb;by_cases hp:k%2=0
    ·(have hp1:((k:Int)%2==0)=true:=by simp;omega);(obtain⟨hr1,hr2⟩:=zoz hv k hlt hp;have HT:=H_ (show zdy k xs[k]=UInt8.ofNat (48+xs[k]).toNat by simp[zdy,hp]);clear hp;go_wp2_with (go_at_call 116;refine(zmz _ _ _ xs _ HX.o hm).mono ?_;rintro e w' ⟨rfl,rfl⟩));go_roundw
     (case rel=>exact⟨k+1,l++[UInt8.ofNat (48+xs[k]).toNat],by omega,by go_num,zoj _ _,by simp;omega,H_ (by rw[zke xs k hlt,HL.o,HT.o]),HB.o _⟩);case measure=>simp[intOf];omega
    ·(have hp1:((k:Int)%2==0)=false:=by simp;omega);(obtain⟨hr1,hr2⟩:=zql hv k hlt hp;have HT:=H_ (show zdy k xs[k]=UInt8.ofNat (97+xs[k]-16).toNat by simp[zdy,hp];congr 2;omega);clear hp;go_wp2_with (go_at_call 116;refine(zmz _ _ _ xs _ HX.o hm).mono ?_;rintro e w' ⟨rfl,rfl⟩));go_roundw
     (case rel=>exact⟨k+1,l++[UInt8.ofNat (97+xs[k]-16).toNat],by omega,by go_num,zoj _ _,by simp;omega,H_ (by rw[zke xs k hlt,HL.o,HT.o]),HB.o _⟩);case measure=>simp[intOf];omega
   ·(obtain rfl:k=xs.length:=by omega);have HX:=H_ hx1;clear hx0 hx1;go_wp2;go_ret;exact⟨za3 (by rw[HL.o,F_];simp[zeq,hv]),hb⟩
end Go.Proofs.YtfnnhimopokpnaaGreatDoor
