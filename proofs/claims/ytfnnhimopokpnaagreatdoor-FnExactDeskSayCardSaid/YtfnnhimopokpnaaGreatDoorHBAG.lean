/- Lemmas for this seat; no condition. -/
import Derived.Test.YtfnnhimopokpnaaGreatDoorHBAE
import Derived.Test.YtfnnhimopokpnaaGreatDoorHBAF
namespace Go.Proofs.YtfnnhimopokpnaaGreatDoor
open Go.RowKit Proofs.Tryz
set_option maxRecDepth 100000
set_option maxHeartbeats 0
set_option linter.all false
variable {w w':World} {e e' x:List Int} {m:Mv} {lo hi:Nat}
def zbf(w:World)(r:Option (List Int))(v:Value)(ok:Bool)(w':World):Prop:=
 Below w w w'/\ok=r.isSome/\γ w w' 3 w' v (r.getD [])
theorem zbf.fail(hb:Below w w w'):zbf w none (.slice (some ⟨w',0,none⟩) 0 0) false (w'.alloc (.cells #[] 3)):=
 ⟨hb.alloc hb.size _,rfl,zbh (π 1 3 w' (ints []) 0 (by omega) rfl) hb.size (by simp)⟩
theorem zzv(w:World)(w':World)(b:Nat)(hb:Blk b (.cells #[.slice (some ⟨w,0,none⟩) 0 0,.slice (some ⟨w+1,0,none⟩) 0 0,.slice (some ⟨w+2,0,none⟩) 0 0] 22) w'):
  RdV w' (.slice (some ⟨b,0,none⟩) 3 3) zcq:=by
 refine⟨[.slice (some ⟨w,0,none⟩) 0 0,.slice (some ⟨w+1,0,none⟩) 0 0,.slice (some ⟨w+2,0,none⟩) 0 0],⟨some ⟨b,0,none⟩,3,rfl,by omega,by decide,rfl,(by intro h;cases h),λi hi=>?_⟩,λk hk=>?_⟩
 ·refine⟨b,0,rfl,ai_ _,hb.lt,hb.lt,?_⟩
  rw[G_,hb.cell];simp
 ·match k,hk with
  | 0,_=>exact⟨_,rfl,_,0,rfl,le_ _,by decide,rfl,(by intro h;cases h),λi hi=>by simp[ints,zcq] at hi⟩
  | 1,_=>exact⟨_,rfl,_,0,rfl,le_ _,by decide,rfl,(by intro h;cases h),λi hi=>by simp[ints,zcq] at hi⟩
  | 2,_=>exact⟨_,rfl,_,0,rfl,le_ _,by decide,rfl,(by intro h;cases h),λi hi=>by simp[ints,zcq] at hi⟩
theorem zzs(e:List Int)(m:Mv)(ve:Value)(w:World)(he:RdI w ve e)(hel:e.length<=1048576)(hbad:(μ e&&isR m.which&&inB m.at_ 0 (e.length-1))=false):
  Calls prog 99 #[ve,.agg #[.int .i64 m.which,.bool m.back,.int .i64 m.at_]] w (zed (zbf w (Ν e m))):=by
 have HN:Q_ (Ν e m=none):=H_ (by unfold Ν;rw[hbad];rfl);have⟨kv,hkv⟩:=ex_ (μ e);have⟨kr,hkr⟩:=ex_ (isR m.which);have⟨ki,hki⟩:=ex_ (inB m.at_ 0 (e.length-1));rw[<-hkv,<-hkr,<-hki]at hbad;have HKV:=H_ hkv;have HKR:=H_ hkr;have HKI:=H_ hki;clear hkv hkr hki;have⟨w0,hw0⟩:=xa_ w #[.int .i64 m.which,.bool m.back,.int .i64 m.at_] 67;have hb0:Below w w w0:=by rw[hw0];exact(B_ _ _).alloc (le_ _) _
 have hs0:w0=w.heap.size+1:=by rw[hw0];simp
 have K:=H_ (show Blk w (.cells #[.int .i64 m.which,.bool m.back,.int .i64 m.at_] 67) w0 by rw[hw0];exact θ w _);have HB:=H_ hb0;have HE:=H_ (he.below hb0);have HW0:=H_ hw0;obtain⟨ea,ecap,rfl,hec,hecm,_⟩:=he.open;have c0:=K.o.cell 0;clear he hb0 hw0
 go_enter func99,ntmps99
 go_wp2_with fail
 simp only[<-HW0.o];go_wp2_with fail
 refine(zqd m.which _).mono ?_;rintro e1 w1 ⟨ra,rb,rc,rfl,hrc,hb1,hrule⟩;obtain⟨la,ln,lc,rfl⟩:∃ x l c,ra=.slice x l c:=by obtain⟨_,_,_,h3,_⟩:=hrule;obtain⟨x,c,h,_⟩:=ι h3;exact⟨x,_,c,h⟩
 obtain⟨lb,lm,ld,rfl⟩:∃ x l c,rb=.slice x l c:=by obtain⟨_,_,_,_,h3⟩:=hrule;obtain⟨x,c,h,_⟩:=ι h3;exact⟨x,_,c,h⟩
 have⟨wa,hwa⟩:=xa_ w1 #[(),()] 161;have KA:Blk w1 (.cells #[(),()] 161) wa:=by rw[hwa];exact θ w1 _
 have HWA:=H_ hwa;obtain⟨r0,r1⟩:=KA.c2;obtain⟨f0,f1⟩:=KA.f2;have⟨w2,hw2⟩:=x2_ wa w1 (.slice la ln lc) (.slice lb lm ld);have KR:=H_ (show Blk w1 _ w2 by rw[hw2];exact KA.set2 (.slice la ln lc) (.slice lb lm ld));have hba:Below w1 w1 wa:=by rw[hwa];exact(B_ _ _).alloc (le_ _) _
 have hsa:wa=w1.heap.size+1:=by rw[hwa];simp
 have hb2:Below w1 w1 w2:=by rw[hw2];exact δ hba (β.set2 _ _ _ _) (le_ _) (by omega)
 have HW2:=H_ hw2;have hs1:=hb1.size;have hs2:=hb2.size;have HRU:=H_ (hrule.below hb2 (le_ _));have HB2:=H_ ((HB.o.trans (hb1.mono HB.o.size)).trans (hb2.mono (by omega)));have K2:=H_ ((K.o.below hb1 K.o.lt).below hb2 (by have:=K.o.lt;omega));have HE2:=H_ ((HE.o.below hb1).below hb2);have HRC:=H_ hrc;clear hwa KA hw2 hb2 hba hb1 hrule hrc HE K HB c0;go_wp2_with (first | rw[<-HWA.o] | rw[<-HW2.o])
 refine(zby 0 _ _ e _ HE2.o hel).mono ?_;rintro e2 wx ⟨rfl,rfl⟩;clear r0 r1 f0 f1;rw[<-HKV.o];have hrc:=HRC.o;rw[<-HKR.o]at hrc;subst hrc;have c2:=K2.o.cell 2;cases kv
 ·go_wp2
  refine a_ (v:=.tuple #[.slice (some ⟨w2,0,none⟩) 0 0,.bool false]) (by simp[results,results99,go_sem]) rfl ⟨_,_,rfl,?_⟩;rw[HN.o];exact zbf.fail HB2.o
 ·cases rc
  ·go_wp2
   refine a_ (v:=.tuple #[.slice (some ⟨w2,0,none⟩) 0 0,.bool false]) (by simp[results,results99,go_sem]) rfl ⟨_,_,rfl,?_⟩;rw[HN.o];exact zbf.fail HB2.o
  ·simp only[db_]at hbad
   subst hbad;have hin:=HKI.o.symm;go_wp2_with (go_at_call 101;refine(zau _ _ _ _).mono ?_;rintro e w' ⟨rfl,rfl⟩)
   refine a_ (v:=.tuple #[.slice (some ⟨w2,0,none⟩) 0 0,.bool false]) (by simp[results,results99,go_sem]) rfl ⟨_,_,rfl,?_⟩;rw[HN.o];exact zbf.fail HB2.o
theorem zk3 {V V':List (List Int)}(hm:∀ i,V.getD i []≠[]->V'.getD i []=V.getD i []):∀ (l x:List Int),χ l V=some x->χ l V'=some x
 | [],x,h=>h
 | s :: r,x,h=>by
  rw[χ]at h ⊢
  split at h
  ·rename_i hs
   rw[l_ hs];obtain⟨y,h1,h2⟩:=L_.1 h;rw[zk3 hm r y h1,<-h2];rfl
  ·rename_i hs
   rw[j_ hs]
   split at h
   ·cases h
   ·rename_i hv
    rw[hm _ hv,j_ hv];obtain⟨y,h1,h2⟩:=L_.1 h;rw[zk3 hm r y h1,<-h2];rfl
theorem zjk:∀ (p t:KT) (V V':List (List Int)),V.length=3->p.ok (-3)=true->t.ok 0=true->φ p t V=some V' ->
  V'.length=3/\(∀ i,V.getD i []≠[]->V'.getD i []=V.getD i [])/\χ p.post V'=some t.post
 | .leaf n,t,V,V',hV,hp,ht,h=>by
  simp only[KT.ok,d_,m_]at hp;rw[φ]at h
  split at h
  ·rename_i hn
   have hk:za1 n<3:=by unfold za1;omega
   have hn0:¬0<=n:=by omega
   split at h
   ·rename_i h0
    injection h with h;subst h;have hg:(V.set (za1 n) t.post).getD (za1 n) []=t.post:=by simp[List.getD,hV,hk]
    refine⟨by simp[hV],λi hi=>?_,?_⟩
    ·(have hne:za1 n≠i:=by intro e;subst e;exact hi h0);simp[List.getD,ao_ hne]
    ·simp only[KT.post,χ,j_ hn0,hg,j_ t.post_ne]
     simp
   ·rename_i h0
    split at h
    ·rename_i h1
     injection h with h;subst h;refine⟨hV,λi _=>rfl,?_⟩;simp only[KT.post,χ,j_ hn0,h1,j_ t.post_ne];simp
    ·cases h
  ·rename_i hn
   split at h
   ·rename_i hr
    injection h with h;subst h;refine⟨hV,λi _=>rfl,?_⟩;have hn0:0<=n:=by omega
    cases t with
    | leaf m=>simp only[KT.root] at hr;subst hr;simp[KT.post,χ,hn0]
    | star _=>simp only[KT.root] at hr;omega
    | bin q _ _=>simp only[KT.root] at hr;cases q<;>simp[KT.op] at hr<;>omega
   ·cases h
 | .star p,t,V,V',hV,hp,ht,h=>by
  simp only[KT.ok]at hp;cases t with
  | star t'=>
   simp only[φ]at h;simp only[KT.ok]at ht;obtain⟨h1,h2,h3⟩:=zjk p t' V V' hV hp ht h;refine⟨h1,h2,?_⟩;simp only[KT.post,zgb,h3];simp[χ]
  | leaf _=>simp[φ] at h
  | bin _ _ _=>simp[φ] at h
 | .bin q a b,t,V,V',hV,hp,ht,h=>by
  simp only[KT.ok,d_]at hp;cases t with
  | bin r c d=>
   simp only[φ]at h;simp only[KT.ok,d_]at ht
   split at h
   ·rename_i hq
    subst hq;rw[D_]at h;obtain⟨V1,g1,g2⟩:=h;obtain⟨h1,h2,h3⟩:=zjk a c V V1 hV hp.1 ht.1 g1;obtain⟨k1,k2,k3⟩:=zjk b d V1 V' h1 hp.2 ht.2 g2;refine⟨k1,λi hi=>?_,?_⟩
    ·rw[k2 i (by rw[h2 i hi];exact hi),h2 i hi]
    ·(have hq0:0<=KT.op q:=by cases q<;>simp[KT.op]);simp only[KT.post,zgb,zk3 k2 _ _ h3,k3];simp[χ,hq0]
   ·cases h
  | leaf _=>simp[φ] at h
  | star _=>simp[φ] at h
def zc2:List Nat:=[2,3,5,6,7,8,15,16,17,18,19]
theorem zwo:∀ n∈zc2,∀ V t part,V.length=3->χ (Ε n true) V=some t->χ (Ε n false) V=some part->part.length<t.length:=by
 have e2:Ε 2 true=[-1,-1,20]/\Ε 2 false=[-1]:=by decide +kernel
 have e3:Ε 3 true=[-1,0,20]/\Ε 3 false=[-1]:=by decide +kernel
 have e5:Ε 5 true=[15,-1,19]/\Ε 5 false=[-1]:=by decide +kernel
 have e6:Ε 6 true=[-1,15,19]/\Ε 6 false=[-1]:=by decide +kernel
 have e7:Ε 7 true=[0,-1,19]/\Ε 7 false=[0]:=by decide +kernel
 have e8:Ε 8 true=[-1,0,19]/\Ε 8 false=[0]:=by decide +kernel
 have e15:Ε 15 true=[-1,21,21]/\Ε 15 false=[-1,21]:=by decide +kernel
 have e16:Ε 16 true=[-1,21,-1,21,19]/\Ε 16 false=[-1,21]:=by decide +kernel
 have e17:Ε 17 true=[0,21]/\Ε 17 false=[15]:=by decide +kernel
 have e18:Ε 18 true=[15,21]/\Ε 18 false=[15]:=by decide +kernel
 have e19:Ε 19 true=[15,-1,20,21]/\Ε 19 false=[-1,21]:=by decide +kernel
 intro n hn V t part hV h1 h2
 obtain⟨X,Y,Z,rfl⟩:∃ X Y Z,V=[X,Y,Z]:=by
  match V,hV with
  | [X,Y,Z],_=>exact⟨X,Y,Z,rfl⟩
 have hl:X≠[]->0<X.length:=λh=>bj_.2 h
 simp only[zc2,z_,bv_,bf_]at hn;by_cases hX:X=[]
 ·subst hX
  rcases hn with rfl|rfl|rfl|rfl|rfl|rfl|rfl|rfl|rfl|rfl|rfl
  all_goals simp[χ,za1,e2,e3,e5,e6,e7,e8,e15,e16,e17,e18,e19] at h1 h2
  all_goals (subst h1;subst h2;simp)
 ·have hp:=hl hX
  rcases hn with rfl|rfl|rfl|rfl|rfl|rfl|rfl|rfl|rfl|rfl|rfl
  all_goals simp[χ,za1,e2,e3,e5,e6,e7,e8,e15,e16,e17,e18,e19,hX] at h1 h2
  all_goals (subst h1;subst h2;simp;try omega)
theorem zr8(h:Ν e m=some e'):μ e=true/\isR m.which=true/\inB m.at_ 0 (e.length-1)=true/\zl6 e m=some e':=by
 unfold Ν at h
 split at h
 ·rename_i hc
  simp only[d_]at hc;exact⟨hc.1.1,hc.1.2,hc.2,h⟩
 ·cases h
theorem zqf(h:Ν e m=some e'):
  ∃ k pre rest t p q V part,zin e m k pre rest t p q/\m.at_=k/\k<e.length/\φ p t zcq=some V/\χ q V=some part/\e'=pre++part++rest/\e'.length<=40/\μ e'=true:=by
 obtain⟨h1,h2,h3,h4⟩:=zr8 h;simp only[inB,d_,m_]at h3;obtain⟨k,hk⟩:∃ k:Nat,m.at_=k:=⟨m.at_.toNat,by omega⟩;have hlt:k<e.length:=by omega
 obtain⟨pre,rest,t,p,q,hM⟩:=zlh h1 h2 hk hlt;rw[hM.mv]at h;rw[D_]at h;obtain⟨part,g1,g2⟩:=h;rw[D_]at g1;obtain⟨V,g3,g4⟩:=g1
 split at g2
 ·rename_i hl
  injection g2 with g2;subst g2;refine⟨k,pre,rest,t,p,q,V,part,hM,hk,hlt,g3,g4,rfl,hl,?_⟩;rw[(hM.val V part g3 g4).2.2];exact bl_ hl
 ·cases g2
theorem zij(h:Ν e m=some e'):μ e'=true:=by
 obtain⟨_,_,_,_,_,_,_,_,_,_,_,_,_,_,_,h⟩:=zqf h;exact h
theorem z0m(hb:m.back=false)(hn:m.which.toNat∈zc2)(h:Ν e m=some e'):e'.length<e.length:=by
 obtain⟨k,pre,rest,t,p,q,V,part,hM,hk,hlt,g3,g4,rfl,_,_⟩:=zqf h;have h1:=(zjk p t zcq V rfl hM.pok hM.ok g3);have h2:=h1.2.2;rw[hM.from_,hb]at h2;rw[hM.to_,hb]at g4;have:=zwo _ hn V _ _ h1.1 h2 g4;rw[hM.eq];simp only[i_];omega
def zjb(e:List Int):List Mv:=(List.range e.length).flatMap λat_=>zc2.map λn=>⟨(n:Nat),false,(at_:Nat)⟩
def zbv(e:List Int):List Mv->Option (Mv × List Int)
 | []=>none
 | m :: r=>match Ν e m with
  | some x=>some (m,x)
  | none=>zbv e r
def zbo(e:List Int):Option (Mv × List Int):=zbv e (zjb e)
theorem zni:∀ {l:List Mv} {m:Mv} {x:List Int},zbv e l=some (m,x)->m∈l/\Ν e m=some x
 | [],m,x,h=>by cases h
 | c :: r,m,x,h=>by
  rw[zbv]at h;cases hc:Ν e c with
  | some y=>
   rw[hc]at h;injection h with h;injection h with h1 h2;subst h1 h2;exact⟨ab_ ..,hc⟩
  | none=>
   rw[hc]at h;obtain⟨h1,h2⟩:=zni h;exact⟨bs_ _ h1,h2⟩
theorem z0p(h:m∈zjb e):m.back=false/\m.which.toNat∈zc2/\∃ k:Nat,m.at_=k/\k<e.length:=by
 simp only[zjb,List.mem_flatMap,ca_,I_]at h;obtain⟨k,hk,n,hn,rfl⟩:=h;exact⟨rfl,hn,k,rfl,hk⟩
theorem zgp(h:zbo e=some (m,x)):Ν e m=some x/\m.back=false/\x.length<e.length/\μ x=true:=by
 obtain⟨h1,h2⟩:=zni h;obtain⟨h3,h4,_⟩:=z0p h1;exact⟨h2,h3,z0m h3 h4 h2,zij h2⟩
def zc5:Nat->List Int->List Mv × List Int
 | 0,e=>([],e)
 | n+1,e=>match zbo e with
  | none=>([],e)
  | some (m,x)=>(m :: (zc5 n x).1,(zc5 n x).2)
def zaf(e:List Int):List Mv × List Int:=zc5 e.length e
theorem zim:∀ n,zc5 n []=([],[])
 | 0=>rfl
 | n+1=>by simp[zc5,zbo,zjb,zbv]
theorem zp0:∀ (n:Nat) (e:List Int),e.length<=n->∀ n',e.length<=n'->zc5 n e=zc5 n' e
 | 0,e,h,n',_=>by
  obtain rfl:=t_ (show e.length=0 by omega);rw[zim,zim]
 | n+1,e,h,0,h'=>by
  obtain rfl:=t_ (show e.length=0 by omega);rw[zim,zim]
 | n+1,e,h,n'+1,h'=>by
  rw[zc5,zc5];cases hf:zbo e with
  | none=>rfl
  | some p=>
   obtain⟨m,x⟩:=p;obtain⟨_,_,hx,_⟩:=zgp hf;simp only[zp0 n x (by omega) n' (by omega)]
theorem zj7(h:zbo e=none):zaf e=([],e):=by
 unfold zaf;cases hl:e.length with
 | zero=>rfl
 | succ k=>rw[zc5,h]
theorem zjz(h:zbo e=some (m,x)):zaf e=(m :: (zaf x).1,(zaf x).2):=by
 obtain⟨_,_,hx,_⟩:=zgp h;unfold zaf;cases hl:e.length with
 | zero=>omega
 | succ k=>
  rw[zc5,h];simp only[zp0 k x (by omega) x.length (le_ _)]
theorem zi7:∀ (n:Nat) (e:List Int),e.length<=n->(zaf e).1.length+(zaf e).2.length<=e.length
 | 0,e,h=>by
  obtain rfl:=t_ (show e.length=0 by omega);simp[zaf,zc5]
 | n+1,e,h=>by
  cases hf:zbo e with
  | none=>rw[zj7 hf];simp
  | some p=>
   obtain⟨m,x⟩:=p;obtain⟨_,_,hx,_⟩:=zgp hf;rw[zjz hf];have:=zi7 n x (by omega);simp;omega
def zaq:List Int->List Mv->Option (List Int)
 | e,[]=>some e
 | e,m :: r=>(Ν e m).bind λx=>zaq x r
def υ(e:List Int)(ms:List Mv):Option (List Int):=if μ e&&decide (ms.length<=60) then zaq e ms else none
theorem zlv:∀ (a b:List Mv) (e:List Int),zaq e (a++b)=(zaq e a).bind λx=>zaq x b
 | [],b,e=>rfl
 | m :: r,b,e=>by
  simp only[al_,zaq,Option.bind_assoc]
  congr 1
  funext x
  exact zlv r b x
theorem zno:∀ (ms:List Mv) (e x:List Int),μ e=true->zaq e ms=some x->μ x=true
 | [],e,x,h,hr=>by injection hr with hr;subst hr;exact h
 | m :: r,e,x,h,hr=>by
  rw[zaq,D_]at hr;obtain⟨y,h1,h2⟩:=hr;exact zno r y x (zij h1) h2
theorem zqp:∀ (n:Nat) (e:List Int),e.length<=n->zaq e (zaf e).1=some (zaf e).2
 | 0,e,h=>by
  obtain rfl:=t_ (show e.length=0 by omega);simp[zaf,zc5,zaq]
 | n+1,e,h=>by
  cases hf:zbo e with
  | none=>rw[zj7 hf];rfl
  | some p=>
   obtain⟨m,x⟩:=p;obtain⟨h1,_,hx,_⟩:=zgp hf;rw[zjz hf];simp only[zaq,h1,T_];exact zqp n x (by omega)
theorem zdi(h:μ e=true):1<=e.length/\e.length<=40:=by
 simp only[μ,d_,m_]at h;exact h.1
theorem zsn(h:μ e=true):υ e (zaf e).1=some (zaf e).2:=by
 have h1:=zi7 _ e (le_ _);have h2:=(zdi h).2;unfold υ;rw[h,bl_ (by omega),zqp _ e (le_ _)];rfl
theorem zmp {ms:List Mv}(h:υ e ms=some x):μ x=true:=by
 unfold υ at h
 split at h
 ·rename_i hc
  simp only[d_]at hc;exact zno ms e x hc.1 h
 ·cases h
theorem zcb.rd {a b:Value} {L R:List Int}(h:zcb lo hi w a b L R)(hh:hi<=w):RdI w a L/\RdI w b R:=by
 obtain⟨m,h1,h2,h3,h4⟩:=h;exact⟨h3.sl.wide (ai_ _) (by omega),h4.sl.wide (ai_ _) hh⟩
theorem zsr(ve:Value)(e:List Int)(n:Nat)(bk:Bool)(k:Nat)(w:World)(he:RdI w ve e)(hn21:n<21)(hv:μ e=true)(hlt:k<e.length)(pre rest:List Int)(t p:KT)(q:List Int)(hM:zin e ⟨n,bk,k⟩ k pre rest t p q):
  Calls prog 99 #[ve,.agg #[.int .i64 n,.bool bk,.int .i64 k]] w (zed (zbf w (Ν e ⟨n,bk,k⟩))):=by
 have HM:=H_ hM;have hel40:=hM.el;have hel:e.length<=1048576:=by omega
 have hisr:isR (n:Int)=true:=by simp[isR,inB];omega
 have HV:=H_ hv;have HIR:=H_ hisr;clear hM hv hisr;have⟨w0,hw0⟩:=xa_ w #[.int .i64 n,.bool bk,.int .i64 k] 67;have hb0:Below w w w0:=by rw[hw0];exact(B_ _ _).alloc (le_ _) _
 have hs0:w0=w.heap.size+1:=by rw[hw0];simp
 have K:=H_ (show Blk w (.cells #[.int .i64 n,.bool bk,.int .i64 k] 67) w0 by rw[hw0];exact θ w _);have HB:=H_ hb0;have HE:=H_ (he.below hb0);have HW0:=H_ hw0;obtain⟨ea,ecap,rfl,hec,hecm,_⟩:=he.open;have c0:=K.o.cell 0;clear he hb0 hw0
 go_enter func99,ntmps99
 go_wp2_with fail
 simp only[<-HW0.o];go_wp2_with fail
 refine(zqd n _).mono ?_;rintro e1 w1 ⟨ra,rb,rc,rfl,hrc,hb1,hrule⟩;obtain⟨la,ln,lc,rfl⟩:∃ x l c,ra=.slice x l c:=by obtain⟨_,_,_,h3,_⟩:=hrule;obtain⟨x,c,h,_⟩:=ι h3;exact⟨x,_,c,h⟩
 obtain⟨lb,lm,ld,rfl⟩:∃ x l c,rb=.slice x l c:=by obtain⟨_,_,_,_,h3⟩:=hrule;obtain⟨x,c,h,_⟩:=ι h3;exact⟨x,_,c,h⟩
 have⟨wa,hwa⟩:=xa_ w1 #[(),()] 161;have KA:Blk w1 (.cells #[(),()] 161) wa:=by rw[hwa];exact θ w1 _
 have HWA:=H_ hwa;obtain⟨r0,r1⟩:=KA.c2;obtain⟨f0,f1⟩:=KA.f2;have⟨w2,hw2⟩:=x2_ wa w1 (.slice la ln lc) (.slice lb lm ld);have KR:=H_ (show Blk w1 _ w2 by rw[hw2];exact KA.set2 (.slice la ln lc) (.slice lb lm ld));have hba:Below w1 w1 wa:=by rw[hwa];exact(B_ _ _).alloc (le_ _) _
 have hsa:wa=w1.heap.size+1:=by rw[hwa];simp
 have hb2:Below w1 w1 w2:=by rw[hw2];exact δ hba (β.set2 _ _ _ _) (le_ _) (by omega)
 have HW2:=H_ hw2;have hs1:=hb1.size;have hs2:=hb2.size;have HRU:=H_ (hrule.below hb2 (le_ _));have HB2:=H_ ((HB.o.trans (hb1.mono HB.o.size)).trans (hb2.mono (by omega)));have K2:=H_ ((K.o.below hb1 K.o.lt).below hb2 (by have:=K.o.lt;omega));have HE2:=H_ ((HE.o.below hb1).below hb2);have HRC:=H_ hrc;clear hwa KA hw2 hb2 hba hb1 hrule hrc HE K HB c0;go_wp2_with (first | rw[<-HWA.o] | rw[<-HW2.o])
 refine(zby 0 _ _ e _ HE2.o hel).mono ?_;rintro e2 wx ⟨rfl,rfl⟩;clear r0 r1 f0 f1;have hrc:=HRC.o;rw[HIR.o]at hrc;subst hrc;have HRN:=H_ (show zda n true=Ε n true/\zda n false=Ε n false by unfold zda;rw[HIR.o];exact⟨by simp,by simp⟩);have HRD:=H_ (HRU.o.rd hs2);rw[HRN.o.1,HRN.o.2]at HRD;have hin:inB (k:Int) 0 ((e.length:Int)-1)=true:=by simp[inB];omega
 rw[HV.o];have c1:=K2.o.cell 1;have c2:=K2.o.cell 2;have⟨q0,q1⟩:=KR.o.c2;obtain⟨eb,eoff,rfl⟩:=SlI.notNil HE2.o (by omega);have HF:Q_ (p.post=Ε n (!bk)):=H_ HM.o.from_;have HT:Q_ (q=Ε n bk):=H_ HM.o.to_;have hkeq:=HM.o.keq;have htsz:=HM.o.sz;have htpos:=t.size_pos;have hpsz:=HM.o.psz;have hql:=HM.o.ql;have HSP:=H_ HM.o.span;clear HRU HRC HIR HV;unfold maxLen at hecm;cases bk
 all_goals (
  first | have HFT:=H_ (zpc HRD.o HF.o HT.o) | have HFT:=H_ (zou HRD.o HF.o HT.o)
  obtain rfl:=HFT.o.1.len';obtain rfl:=HFT.o.2.len';clear HRD;go_wp2_with (go_at_call 101;refine(zau _ _ _ _).mono ?_;rintro e w' ⟨rfl,rfl⟩)
  refine(zq8 0 _ _ e k t.size w2 HE2.o hel hlt HSP.o).mono ?_;rintro e3 wx ⟨x1,rfl,hx1,_,rfl⟩;obtain rfl:x1=(pre.length:Int):=by omega
  have⟨w5,hw5⟩:=ex_ ((((w2.alloc (.cells #[] 3)).alloc (.cells #[] 3)).alloc (.cells #[] 3)).alloc (.cells #[.slice (some ⟨w2,0,none⟩) 0 0,.slice (some ⟨w2+1,0,none⟩) 0 0,.slice (some ⟨w2+2,0,none⟩) 0 0] 22));have hb5:Below w2 w2 w5:=by rw[hw5];exact((((B_ _ _).alloc (le_ _) _).alloc (by simp) _).alloc (by simp;omega) _).alloc (by simp;omega) _
  have hz5:w5=w2.heap.size+4:=by rw[hw5];simp
  have HRV:=H_ (zzv w2 w5 (w2+3) (by
   rw[hw5];have h:=θ (((w2.alloc (.cells #[] 3)).alloc (.cells #[] 3)).alloc (.cells #[] 3)) (.cells #[.slice (some ⟨w2,0,none⟩) 0 0,.slice (some ⟨w2+1,0,none⟩) 0 0,.slice (some ⟨w2+2,0,none⟩) 0 0] 22)
   simpa using h))
  have z0:k+1-pre.length=t.size:=by omega
  have HPT:Q_ (RdI w5 (.slice (some ⟨eb,eoff+pre.length,none⟩) t.size (ecap-pre.length)) t.post):=by
   have h:=HE2.o.sub pre.length (k+1) (by omega) (by omega);rw[z0]at h;have h2:(e.drop pre.length).take t.size=t.post:=by rw[HM.o.eq,M_,b8_,<-t.post_length,ba_]
   rw[h2]at h;exact H_ (zep h hb5)
  have HB5:=H_ (HB2.o.trans (hb5.mono (by have:=HB2.o.size;omega)));have HE5:=H_ (HE2.o.below hb5);have K5:=K2.kb hb5;have HFT5:=H_ (And.intro (HFT.o.1.below hb5) (HFT.o.2.below hb5));have HW5:=H_ hw5;have⟨z1,z2,z3,z4,z5,z6⟩:(0:Int)<=(k:Int)+1/\(pre.length:Int)<=(k:Int)+1/\(k:Int)+1<=ecap/\((k:Int)+1).toNat=k+1/\pre.length<=k+1/\k+1<=ecap:=by omega
  have⟨z7,z8⟩:((k:Int)+1-pre.length).toNat=t.size/\¬ecap=pre.length:=by omega
  clear hw5 hb5 HE2 K2 HFT HB2 KR q0 q1 c1 hx1;go_wp2_with (first | rw[<-HW5.o])
  refine(zjc p HM.o.pok (by omega) t zcq w5 _ _ _ HM.o.ok htsz GV.zero HFT5.o.1 HPT.o HRV.o).mono ?_;rintro e6 w6 ⟨v6,b6,rfl,hb6,rfl,V6,hg6,hr6,hx6⟩;have hs6:=hb6.size;have HB6:=HB5.ts hb6;have HE6:=H_ (HE5.o.below hb6);have K6:=K5.kb hb6;have HT6:=H_ (HFT5.o.2.below hb6);have HX6:=H_ hx6;have HG6:=H_ hg6;obtain⟨gb,go,gc,rfl,_⟩:=hr6.get;have HR6:=H_ hr6;clear hb6 hr6 hx6 hg6 HPT HRV HFT5 HE5 K5 HB5 z0 z1 z2 z3 z4 z5 z6 z7 z8 c2;go_wp2_with fail
  refine(zty q V6 w6 _ _ HM.o.qlo (by omega) HG6.o HT6.o HR6.o).mono ?_;rintro e7 w7 ⟨v7,b7,rfl,hb7,rfl,⟨l7,hl7⟩,ho7⟩;obtain⟨a7,n7,c7,rfl⟩:∃ a n c,v7=.slice a n c:=by obtain⟨a,c,h,_⟩:=τ hl7;exact⟨a,_,c,h⟩
  have hs7:=hb7.size;have HB7:=HB6.ts hb7;have HE7:=H_ (HE6.o.below hb7);have K7:=K6.kb hb7;have HO7:=H_ ho7;have hszw:=HB7.o.size;clear hb7 HE6 K6 HB6 HR6 HT6 ho7;cases hres:φ p t zcq with
  | none=>
   have HR:Q_ (Ν e ⟨n,_,k⟩=none):=H_ (by rw[HM.o.mv,hres];rfl);clear hres HX6;simp only[ap_];go_wp2;refine a_ (v:=.tuple #[.slice (some ⟨w7,0,none⟩) 0 0,.bool false]) (by simp[results,results99,go_sem]) rfl ⟨_,_,rfl,?_⟩;rw[HR.o];exact zbf.fail HB7.o
  | some V=>
   obtain rfl:V6=V:=HX6.o V hres;have HR:=H_ (HM.o.mv);rw[hres,T_]at HR;have HVAL:=H_ (λx hx=>HM.o.val V6 x hres hx);clear hres HX6;simp only[ak_];cases hfil:χ q V6 with
   | none=>
    rw[hfil]at HR;have HRN2:Q_ (Ν e ⟨n,_,k⟩=none):=H_ (by rw[HR.o];rfl);clear hfil HO7;simp only[ap_];go_wp2;refine a_ (v:=.tuple #[.slice (some ⟨w7,0,none⟩) 0 0,.bool false]) (by simp[results,results99,go_sem]) rfl ⟨_,_,rfl,?_⟩;rw[HRN2.o];exact zbf.fail HB7.o
   | some x=>
    rw[hfil,T_]at HR;obtain⟨hx1,hx2,hx3⟩:=HVAL.o x hfil;have ho:=HO7.o x hfil;obtain rfl:=ho.sl.len';clear hfil;simp only[ak_];obtain⟨g7,o7,rfl⟩:=SlI.notNil ho.sl (by omega)
    have hrl:rest.length=e.length-(k+1):=by
     have h:=congrArg List.length HM.o.eq;simp only[i_,t.post_length]at h;omega
    have hrest:e.drop (k+1)=rest:=by
     rw[show k+1=(pre++t.post).length by rw[i_,t.post_length];omega,HM.o.eq,b8_]
    have HPRE:=H_ (show RdI w7 (.slice (some ⟨eb,eoff,none⟩) pre ecap) pre by
     (have h:=SlI.take HE7.o pre.length (by omega))
     rwa [show e.take pre.length=pre by rw[HM.o.eq,M_,ba_]]at h)
    (have HTL:=H_ (HE7.o.dropI (k+1) (by omega));rw[hrest,<-hrl]at HTL;have HX:=H_ ho;have HK:=H_ (And.intro hx2 hx3);have hx16:x.length<=1600:=hx2;have c2:=K7.o.cell 2;have⟨z1,z2,z3,z4,z5,z6⟩:((k:Int)+1).toNat=k+1/\(0:Int)<=(k:Int)+1/\(k:Int)+1<=e.length/\(k:Int)+1<=ecap/\((e.length:Int)-((k:Int)+1)).toNat=rest.length/\k+1<=e.length:=by omega);(have⟨z7,z8,y1,y2,y3⟩:k+1<=ecap/\e.length-(k+1)=rest.length/\(pre.length:Int)<=ecap/\pre.length<=ecap/\pre.length<=40:=by omega);(have y4:IntKind.i64.wrap ((k:Int)+1)=(k:Int)+1:=by simp[IntKind.wrap,IntKind.bits,IntKind.signed];omega);(have hc7:w7.drew.cell? (p_ w 2)=some (.int .i64 k):=c2;clear ho hx1 hx2 hx3 HO7 HVAL hrest c2;go_wp2_with fail);(have⟨y5,y6,y7⟩:(0:Int)<=(pre.length:Int)/\(e.length:Int)<=ecap/\(0:Int)<=(e.length:Int):=by omega);(have HRL:=H_ hrl;clear hrl;have⟨w8,hw8⟩:=ex_ ((w7.alloc (.cells #[] 3)).drew);have hb8:Below w7 w7 w8:=by rw[hw8];exact((B_ _ _).alloc (le_ _) _).drew);(have hs8:w8=w7.heap.size+1:=by rw[hw8];exact κ _ _);(have HOL:Q_ (Own 1 w7 (w7+1) 3 w8 (.slice (some ⟨w7,0,none⟩) 0 0) 0 (ints [])):=by rw[hw8];exact H_ (π 1 3 w7 (ints []) 0 (by omega) rfl));(have hc8:(w7.alloc (.cells #[] 3)).drew.cell? (p_ w 2)=some (.int .i64 k):=by rw[<-hw8,hb8.cell (p:=p_ w 2) K7.o.lt];exact hc7);(have HW8:=H_ hw8;have H8:=H_ hb8;have hkl7:=K7.o.lt;clear hb8 hw8;have hcases:ecap=k+1\/¬ecap=k+1:=by omega);rcases hcases with hcs|hcs
    all_goals (
     (have HT2:=HTL.o)
     first | rw[l_ hcs,hcs,ax_] at HT2 | rw[j_ hcs] at HT2
     (have HT3:=H_ HT2;clear HT2;have zz:(pre.length:Int)<=(k:Int)+1:=by omega)
     try subst hcs
     go_region_held3 (λw'=>w'.cell? (p_ w 2)=some (.int .i64 k)) (first | assumption | go_keep) (first
      | (rw[<-HW8.o];refine zg9 (by rfl) _ _ 22 (by rfl) 3 (0:Int) 1 8 underlying22 Δ (by rfl) (by decide) (by decide) (by rfl) (HOL.o) (by rfl) (zhp HPRE.o H8.o (le_ _)) (Μ _) (by omega) (by omega) ?_;intro v9 w9 ho9 hout9;(have hs9:=hout9.size);(have hc9:w9.cell? (p_ w 2)=some (.int .i64 k):=(X_ (w:=w8) (a:=p_ w 2) (hout9.block w (by omega) (.inl hkl7))).trans (by rw[HW8.o];exact hc8));(have HO9:=H_ ho9);(have H9:=H_ (δ H8.o hout9 (le_ _) H8.o.size));clear ho9 hout9)
      | (refine zg9 (by rfl) _ _ 22 (by rfl) 3 (0:Int) 1 8 underlying22 Δ (by rfl) (by decide) (by decide) (by rfl) (HO9.o) (by rfl) (zhp (γ.sl HX.o) H9.o (le_ _)) (Μ _) (by omega) (by omega) ?_;intro v10 w10 ho10 hout10;(have hs10:=hout10.size);(have hc10:w10.cell? (p_ w 2)=some (.int .i64 k):=(X_ (w:=w9) (a:=p_ w 2) (hout10.block w (by omega) (.inl hkl7))).trans hc9);(have HO10:=H_ ho10);(have H10:=H_ (δ H9.o hout10 (le_ _) H9.o.size));clear ho10 hout10)
      | (refine zg9 (by rfl) _ _ 22 (by rfl) 3 (0:Int) 1 8 underlying22 Δ (by rfl) (by decide) (by decide) (by rfl) (HO10.o) (by rfl) (zhp HT3.o H10.o (le_ _)) (Μ _) (by omega) (by omega) ?_;intro v11 w11 ho11 hout11;(have hs11:=hout11.size);(have hc11:w11.cell? (p_ w 2)=some (.int .i64 k):=(X_ (w:=w10) (a:=p_ w 2) (hout11.block w (by omega) (.inl hkl7))).trans hc10);(have HO11:=H_ ho11);(have H11:=H_ (δ H10.o hout11 (le_ _) H10.o.size));clear ho11 hout11))
     have HOU:Q_ (γ w7 w11 3 w11 v11 (pre++x++rest)):=by
      refine H_ ?_;have h:=HO11.o;simp only[G_,<-zan,J_]at h;exact γ.len h (by simp only[i_])
     (have hlen11:(pre++x++rest).length=pre.length+x.length+rest.length:=by simp only[i_]);(have HB11:=HB7.tr H11.o hszw;have hkv:=HK.o.2;have hbg:(pre++x++rest).length<=1048576:=by omega);generalize pre++x++rest=out at HOU HR hkv hlen11 hbg;obtain⟨a11,c11,rfl,_⟩:=ι HOU.o;have HKV:=H_ hkv;have HLL:=H_ hlen11;clear HO11 HO10 HO9 H8 H9 H10 hc11 hc10 hc9 hc8 hkv hlen11;go_wp2_with fail
     refine(zby _ _ _ out _ HOU.o.sl hbg).mono ?_;rintro e12 wx ⟨rfl,rfl⟩;rw[HKV.o];by_cases hbig:out.length<=40
     ·(have hd:=bl_ hbig);have HR2:=H_ (HR.o.trans (l_ hbig));rw[hd];clear hd hbig;go_wp2;refine a_ (v:=.tuple #[.slice a11 out c11,.bool true]) (by simp[results,results99,go_sem]) rfl ⟨_,_,rfl,?_⟩;rw[HR2.o];exact⟨HB11.o,rfl,zbh HOU.o hszw (le_ _)⟩
     ·(have hd:=dn_ hbig);have HR2:=H_ (HR.o.trans (j_ hbig));rw[hd];clear hd hbig;go_wp2;refine a_ (v:=.tuple #[.slice (some ⟨w11,0,none⟩) 0 0,.bool false]) (by simp[results,results99,go_sem]) rfl ⟨_,_,rfl,?_⟩;rw[HR2.o];exact zbf.fail HB11.o))
theorem zl3(ve:Value)(e:List Int)(m:Mv)(w:World)(he:RdI w ve e)(hel:e.length<=1048576):
  Calls prog 99 #[ve,zhx m] w (zed (zbf w (Ν e m))):=by
 cases hc:(μ e&&isR m.which&&inB m.at_ 0 (e.length-1))
 ·exact zzs e m ve w he hel hc
 ·simp only[d_]at hc
  obtain⟨⟨hv,hr⟩,ha⟩:=hc;obtain⟨k,hk,hlt⟩:∃ k:Nat,m.at_=k/\k<e.length:=⟨m.at_.toNat,by simp[inB] at ha;omega,by simp[inB] at ha;omega⟩;obtain⟨n,hn,hn21⟩:∃ n:Nat,m.which=n/\n<21:=⟨m.which.toNat,by simp[isR,inB] at hr;omega,by simp[isR,inB] at hr;omega⟩;obtain⟨pre,rest,t,p,q,hM⟩:=zlh hv hr hk hlt;obtain⟨wh,bk,at_⟩:=m;subst hk hn;exact zsr ve e n bk k w he hn21 hv hlt pre rest t p q hM
theorem zro {ms:List Mv}(k:Nat)(h:k<ms.length):zaq x (ms.drop k)=(Ν x ms[k]).bind λy=>zaq y (ms.drop (k+1)):=by
 rw[q_ h,zaq]
theorem zpu {ms:List Mv}(k:Nat)(h:ms.length<=k):zaq x (ms.drop k)=some x:=by
 rw[ah_ h,zaq]
theorem Blk.set3 {g:Nat} {e:TypeId} {x0 x1 x2:Value}(h:Blk g (.cells #[x0,x1,x2] e (0,0)) w)(a b c:Value):
  Blk g (.cells #[a,b,c] e (0,0)) (((w.setCell (p_ g 0) a).setCell (p_ g 1) b).setCell (p_ g 2) c):=by
 have h':w.heap[g]?=_:=h
 show (((w.setCell (p_ g 0) a).setCell (p_ g 1) b).setCell (p_ g 2) c).heap[g]?=_
 simp[World.setCell,V_,h']
theorem β.set3(g:Nat)(w:World)(a b c:Value):β g (g+1) w (((w.setCell (p_ g 0) a).setCell (p_ g 1) b).setCell (p_ g 2) c):=
 (((β.refl _ _ _).setCell (p:=p_ g 0) (le_ _) (A_ _) _).setCell (p:=p_ g 1) (le_ _) (A_ _) _).setCell (p:=p_ g 2) (le_ _) (A_ _) _
theorem zbf.nil(hb:Below w w w'):zbf w none () false w':=⟨hb,rfl,Ξ _ _ _ _ _⟩
theorem zra(lo hi lo' hi':Nat)(ve vm:Value)(e:List Int)(ms:List Mv)(w:World)(hE:zao w)(hx:SlI lo hi w ve e)(hm:e.length<=1048576)(hms:SlM lo' hi' w vm ms)(hml:ms.length<=1048576):
  Calls prog 70 #[ve,vm] w (zed (zbf w (υ e ms))):=by
 have HX:=H_ hx;have HE:=H_ hE;have HMS:=H_ hms;obtain⟨ma,mcap,rfl,hmc,hmm⟩:=hms.shape;obtain⟨ea,ecap,rfl,_⟩:=hx.open;unfold maxLen at hmm;clear hx hE hms;cases hkv:μ e
 ·have HR:Q_ (υ e ms=none):=H_ (by simp[υ,hkv])
  go_enter func70,ntmps70
  go_wp2_with fail
  refine(zdd _ _ _ e _ HX.o hm).mono ?_;rintro e1 w1 ⟨rfl,rfl⟩;rw[hkv];go_wp2
  go_ret2
  exact⟨_,_,rfl,by rw[HR.o];exact zbf.nil (B_ _ _)⟩
 by_cases hbig:60<ms.length
 ·have HR:Q_ (υ e ms=none):=H_ (by simp[υ,hkv];omega)
  go_enter func70,ntmps70
  go_wp2_with fail
  refine(zdd _ _ _ e _ HX.o hm).mono ?_;rintro e1 w1 ⟨rfl,rfl⟩;rw[hkv];go_wp2
  go_ret2
  exact⟨_,_,rfl,by rw[HR.o];exact zbf.nil (B_ _ _)⟩
 ·have HR:Q_ (υ e ms=zaq e ms):=H_ (by simp[υ,hkv];omega)
  have HKV:=H_ hkv
  go_enter func70,ntmps70
  go_wp2_with fail
  refine(zdd _ _ _ e _ HX.o hm).mono ?_;rintro e1 w1 ⟨rfl,rfl⟩;rw[hkv];clear hkv;go_wp2_with fail
  refine(zc9 _ _ _ e _ HX.o hm).mono ?_;rintro e2 w2 ⟨v2,rfl,hb2,ho2⟩;have HB2:=H_ hb2;have HO2:=H_ ho2;clear hb2 ho2;go_wp2;go_loopw [6,23] (λv i wr=>∃ (k:Nat) (x:List Int),k<=ms.length/\i=.int .i64 k/\Q_ (γ w wr 3 wr v x/\Below w w wr/\μ x=true/\zaq e ms=zaq x (ms.drop k))) (λ_ i _=>ms.length-(intOf i).toNat)
  case atStart=>exact⟨0,e,by omega,rfl,H_ ⟨HO2.o,HB2.o,HKV.o,by rw[b5_]⟩⟩
  case round=>
   obtain⟨k,x,hk,rfl,HQ⟩:=hrel;obtain⟨oa,oc,rfl,_⟩:=ι HQ.o.1;have HB:=H_ HQ.o.2.1;have hsz:=HB.o.size;by_cases hlt:k<ms.length
   ·(obtain⟨b,off,rfl,_,_,hbs,g1,g2,g3⟩:=HMS.o.get k hlt);(obtain⟨m,hm'⟩:∃ m,m=ms[k]:=⟨_,rfl⟩;rw[<-hm']at g1 g2 g3;have hcellb:∀ j,wr.cell? (p_ b j)=w.cell? (p_ b j):=λj=>HB.o.cell (p:=p_ b j) hbs);rw[<-hcellb]at g1 g2 g3;have HST:=H_ (HQ.o.2.2.2.trans (zro k hlt));rw[<-hm']at HST;clear hcellb hm';go_wp2_with fail
    (have⟨w1,hw1⟩:=xa_ wr #[.int .i64 m.which,.bool m.back,.int .i64 m.at_] 67;have hb1:Below wr wr w1:=by rw[hw1];exact(B_ _ _).alloc (le_ _) _);simp only[<-hw1];have HB1:=HB.tr hb1 hsz;have HX1:=H_ (zep (zd5 HQ.o.1.sl (le_ _)) hb1);have hs1:=HB1.o.size;clear hw1 hb1 g1 g2 g3;refine(zl8 _ x m w1 (HE.o.below HB1.o) HX1.o HQ.o.2.2.1).mono ?_;rintro e3 w3 ⟨v3,x3,rfl,hb3,hres⟩;have HB3:=HB1.tr hb3 hs1;cases hmv:Ν x m with
    | none=>
     rw[hmv]at hres HST;obtain⟨rfl,g,rfl,_⟩:=hres;have HR2:Q_ (υ e ms=none):=H_ (HR.o.trans HST.o);clear hmv;go_wp2
     go_ret2
     exact⟨_,_,rfl,by rw[HR2.o];exact zbf.nil HB3.o⟩
    | some y=>
     rw[hmv]at hres HST;obtain⟨rfl,ho3⟩:=hres;have HO3:=H_ (zbh ho3 hs1 (le_ _));have HKY:=H_ (zij hmv);obtain⟨ya,yc,rfl,_⟩:=ι ho3;clear hmv ho3 hb3;go_wp2;go_roundw
     (case rel=>exact⟨k+1,y,by omega,by go_num,H_ ⟨HO3.o,HB3.o,HKY.o,HST.o⟩⟩);case measure=>simp[intOf];omega
   ·(obtain rfl:k=ms.length:=by omega);(have HR2:Q_ (υ e ms=some x):=H_ (by rw[HR.o,HQ.o.2.2.2,zpu _ (le_ _)]);go_wp2);go_ret2
    exact⟨_,_,rfl,by rw[HR2.o];exact⟨HB.o,rfl,HQ.o.1⟩⟩
theorem zog {v:Value} {xs:List Int}(h:SlI lo hi w v xs)(o:Obj):SlI lo hi (w.alloc o) v xs:=by
 obtain⟨a,cap,h1,h2,h3,h4,h5,h6⟩:=h;refine⟨a,cap,h1,h2,h3,h4,h5,λi hi'=>?_⟩;obtain⟨b,off,e,e1,e2,e3,e4⟩:=h6 i hi';exact⟨b,off,e,e1,e2,by simp;omega,by rw[World.cell?_alloc_lt _ _ (p_ b (off+i)) e3];exact e4⟩
theorem zqr(lo hi lo' hi':Nat)(ve vm:Value)(e:List Int)(ms:List Mv)(w:World)(hx:SlI lo hi w ve e)(hm:e.length<=1048576)(hms:SlM lo' hi' w vm ms)(hml:ms.length<=1048576):
  Calls prog 63 #[ve,vm] w (zed (zbf w (υ e ms))):=by
 have HX:=H_ hx;have HMS:=H_ hms;obtain⟨ma,mcap,rfl,hmc,hmm⟩:=hms.shape;obtain⟨ea,ecap,rfl,_⟩:=hx.open;unfold maxLen at hmm;clear hx hms;cases hkv:μ e
 ·have HR:Q_ (υ e ms=none):=H_ (by simp[υ,hkv])
  go_enter func63,ntmps63
  go_wp2_with fail
  refine(zby _ _ _ e _ HX.o hm).mono ?_;rintro e1 w1 ⟨rfl,rfl⟩;rw[hkv];go_wp2
  go_ret2
  exact⟨_,_,rfl,by rw[HR.o];exact zbf.fail (B_ _ _)⟩
 by_cases hbig:60<ms.length
 ·have HR:Q_ (υ e ms=none):=H_ (by simp[υ,hkv];omega)
  go_enter func63,ntmps63
  go_wp2_with fail
  refine(zby _ _ _ e _ HX.o hm).mono ?_;rintro e1 w1 ⟨rfl,rfl⟩;rw[hkv];go_wp2
  go_ret2
  exact⟨_,_,rfl,by rw[HR.o];exact zbf.fail (B_ _ _)⟩
 ·have HR:Q_ (υ e ms=zaq e ms):=H_ (by simp[υ,hkv];omega)
  have HKV:=H_ hkv;have HOL:Q_ (Own 1 w (w+1) 3 (w.alloc (.cells #[] 3)) (.slice (some ⟨w,0,none⟩) 0 0) 0 (ints [])):=H_ (π 1 3 w (ints []) 0 (by omega) rfl);have HA:=H_ ((B_ w w).alloc (le_ _) (.cells #[] 3));have HXA:=H_ ((zog HX.o) (.cells #[] 3))
  go_enter func63,ntmps63
  go_wp2_with fail
  refine(zby _ _ _ e _ HX.o hm).mono ?_;rintro e1 w1 ⟨rfl,rfl⟩;rw[hkv];clear hkv;go_wp2_with (at_builtin;go_loud (refine Ο rfl _ _ 22 rfl 3 (0:Int) 1 8 underlying22 Δ rfl (by decide) (by decide) rfl HOL.o rfl HXA.o (Μ _) (by omega) (by simp) ?_))
  intro v2 w2 ho2 _ hout2 _
  have HO2:Q_ (γ w w2 3 w2 v2 e):=by
   have h:=ho2;simp only[<-zan,J_]at h;exact H_ h
  have HB2:=H_ (δ HA.o hout2 (le_ _) (by simp));obtain⟨a2,c2,rfl,_⟩:=ι HO2.o;clear ho2 hout2 HXA HOL HA;go_wp2;go_loopw [6,7] (λv i wr=>∃ (k:Nat) (x:List Int),k<=ms.length/\i=.int .i64 k/\Q_ (γ w wr 3 wr v x/\Below w w wr/\μ x=true/\zaq e ms=zaq x (ms.drop k))) (λ_ i _=>ms.length-(intOf i).toNat)
  case atStart=>exact⟨0,e,by omega,rfl,H_ ⟨HO2.o,HB2.o,HKV.o,by rw[b5_]⟩⟩
  case round=>
   obtain⟨k,x,hk,rfl,HQ⟩:=hrel;obtain⟨oa,oc,rfl,_⟩:=ι HQ.o.1;have HB:=H_ HQ.o.2.1;have hsz:=HB.o.size;by_cases hlt:k<ms.length
   ·(obtain⟨b,off,rfl,_,_,hbs,g1,g2,g3⟩:=HMS.o.get k hlt);(obtain⟨m,hm'⟩:∃ m,m=ms[k]:=⟨_,rfl⟩;rw[<-hm']at g1 g2 g3;have hcellb:∀ j,wr.cell? (p_ b j)=w.cell? (p_ b j):=λj=>HB.o.cell (p:=p_ b j) hbs);rw[<-hcellb]at g1 g2 g3;have HST:=H_ (HQ.o.2.2.2.trans (zro k hlt));rw[<-hm']at HST;have hxl:=(zdi HQ.o.2.2.1).2;clear hcellb hm';go_wp2_with fail
    refine(zl3 _ x m wr (zd5 HQ.o.1.sl (le_ _)) (by omega)).mono ?_;rintro e3 w3 ⟨v3,b3,rfl,hb3,rfl,ho3⟩;have HB3:=HB.tr hb3 hsz;obtain⟨ya,yc,rfl,_⟩:=ι ho3;cases hmv:Ν x m with
    | none=>
     rw[hmv]at HST;have HR2:Q_ (υ e ms=none):=H_ (HR.o.trans HST.o);clear hmv ho3;simp only[ap_];go_wp2
     go_ret2
     exact⟨_,_,rfl,by rw[HR2.o];exact zbf.fail HB3.o⟩
    | some y=>
     rw[hmv]at HST ho3;have HO3:=H_ (zbh ho3 hsz (le_ _));have HKY:=H_ (zij hmv);clear hmv ho3 hb3 g1 g2 g3;simp only[ak_,N_];go_wp2;go_roundw
     (case rel=>exact⟨k+1,y,by omega,by go_num,H_ ⟨HO3.o,HB3.o,HKY.o,HST.o⟩⟩);case measure=>simp[intOf];omega
   ·(obtain rfl:k=ms.length:=by omega);(have HR2:Q_ (υ e ms=some x):=H_ (by rw[HR.o,HQ.o.2.2.2,zpu _ (le_ _)]);go_wp2);go_ret2
    exact⟨_,_,rfl,by rw[HR2.o];exact⟨HB.o,rfl,HQ.o.1⟩⟩
end Go.Proofs.YtfnnhimopokpnaaGreatDoor
