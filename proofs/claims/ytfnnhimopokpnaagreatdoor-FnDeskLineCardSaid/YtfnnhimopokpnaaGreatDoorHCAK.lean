/- Lemmas for this seat; no condition. -/
import Derived.Test.YtfnnhimopokpnaaGreatDoorHCAJ
namespace Go.Proofs.YtfnnhimopokpnaaGreatDoor
open Go.RowKit Proofs.Tryz
set_option maxRecDepth 100000
set_option maxHeartbeats 0
set_option linter.all false
variable {l r s:List UInt8} {R A n c sign:Nat} {t:KT} {e xs:List Int} {p q:PR}
def zcn(l:List UInt8)(R A B:Nat):Prop:=∀ m:Mv,zbl m=true->(m.which<R\/(m.which=R/\(m.at_<A\/(m.at_=A/\(if m.back then 1 else 0)<B))))->Γ m≠l
theorem zcn.zero(l:List UInt8):zcn l 0 0 0:=by
 intro m h hlt;simp[zbl]at h;omega
theorem zcn.step {B:Nat}(h:zcn l R A B)(hne:Γ ⟨R,(B:Int)==1,A⟩≠l)(hB:B<2):zcn l R A (B+1):=by
 intro m hm hlt;by_cases h1:m.which<R\/(m.which=R/\(m.at_<A\/(m.at_=A/\(if m.back then 1 else 0)<B)))
 ·exact h m hm h1
 ·have e:m=⟨R,(B:Int)==1,A⟩:=by
   obtain⟨p,b,q⟩:=m;simp only at h1 hlt;have⟨e1,e2,e3⟩:p=R/\q=A/\(if b=true then 1 else 0)=B:=by omega
   subst e1 e2
   congr 1
   subst e3;cases b<;>rfl
  rw[e];exact hne
theorem zcn.next(h:zcn l R A 2):zcn l R (A+1) 0:=by
 intro m hm hlt;refine h m hm ?_;have:(if m.back=true then 1 else 0)<2:=by split<;>omega
 omega
theorem zcn.next2(h:zcn l R 40 0):zcn l (R+1) 0 0:=by
 intro m hm hlt;refine h m hm ?_;simp[zbl]at hm;omega
theorem zcn.all(h:zcn l 21 0 0):zbk l=none:=
 zfw λm hm=>h m hm (by simp[zbl] at hm;omega)
theorem ztg(h:6<l.length):zbk l=none:=
 zfw λm hm e=>by have:=zil m;rw[e] at this;omega
theorem zmq(l:List UInt8)(s:ByteArray)(hs:s=⟨l.toArray⟩)(w:World)(hl:l.length<=2097152):
  c_ 98 #[.string s] w (zb2 (zbk l)):=by
 subst hs;have hb0:Q_ (∀ o,Below w w (w.alloc o)):=H_ λo=>(B_ _ _).alloc (le_ _) _
 by_cases h6:6<l.length
 ·go_enter func98,ntmps98
  go_wp2;rw[ztg h6];refine d_ (v:=zb2 none) (by simp[results,results98,go_sem,zb2,zal]) rfl ⟨rfl,hb0.o _⟩
 ·have K0:Q_ (∀ o,Blk w o (w.alloc o)):=H_ λo=>κ w o
  have h6':l.length<=6:=by omega
  clear h6
  go_enter func98,ntmps98
  go_wp2;go_loopw [4] (λi wr=>∃ R:Nat,R<=21/\i=.int .i64 R/\Q_ (zcn l R 0 0)/\Q_ (Blk w (.cells #[(0:Int),.bool false,(0:Int)] 67) wr)/\Q_ (Below w w wr)) (λi _=>21-(intOf i).toNat)
  case atStart=>exact⟨0,by omega,rfl,H_ (zcn.zero l),H_ (K0.o _),H_ (hb0.o _)⟩
  case round=>
   obtain⟨R,hR,rfl,HN,K,HB⟩:=hrel;by_cases hltR:R<21
   ·go_wp2
    simp only[show decide ((R:Int)<21)=true from b6_ (by omega)];go_loopw [5] (λi wr=>∃ A:Nat,A<=40/\i=.int .i64 A/\Q_ (zcn l R A 0)/\Q_ (Blk w (.cells #[(0:Int),.bool false,(0:Int)] 67) wr)/\Q_ (Below w w wr)) (λi _=>40-(intOf i).toNat)
    case atStart=>exact⟨0,by omega,rfl,HN,K,HB⟩
    case round=>
     clear HN K HB;obtain⟨A,hA,rfl,HN,K,HB⟩:=hrel;by_cases hltA:A<40
     ·go_wp2
      simp only[show decide ((A:Int)<40)=true from b6_ (by omega)];go_loopw [6] (λi wr=>∃ B:Nat,B<=2/\i=.int .i64 B/\Q_ (zcn l R A B)/\Q_ (Blk w (.cells #[(0:Int),.bool false,(0:Int)] 67) wr)/\Q_ (Below w w wr)) (λi _=>2-(intOf i).toNat)
      case atStart=>exact⟨0,by omega,rfl,HN,K,HB⟩
      case round=>
       clear HN K HB;obtain⟨B,hB,rfl,HN,K,HB⟩:=hrel;by_cases hltB:B<2
       ·go_wp2_with fail
        (have⟨bk,hbk⟩:=ex_ ((B:Int)==1);rw[<-hbk];have⟨w4,hw4⟩:=xa_ wr #[.int .i64 R,.bool bk,.int .i64 A] 67;rw[<-hw4];have hb:Below wr wr w4:=by rw[hw4];exact(B_ _ _).alloc (le_ _) _);(have K4:Q_ (Blk wr (.cells #[.int .i64 R,.bool bk,.int .i64 A] 67) w4):=by rw[hw4];exact H_ (κ _ _));replace K:=K.kb hb;have hsz3:=HB.o.size;replace HB:=HB.ts hb;have HBK:=H_ hbk;clear hb hw4 hbk;refine(zk0 ⟨R,bk,A⟩ _).mono ?_;rintro e w5 ⟨rfl,hb⟩;replace K:=K.kb hb;replace K4:=K4.kb hb;replace HB:=HB.ts hb;clear hb;have⟨d0,d1,d2⟩:=K4.o.c3;cases hq:(Γ ⟨R,bk,A⟩==l)
        ·go_wp2
         go_roundw
         (case rel=>exact⟨B+1,by omega,by go_num,H_ (HN.o.step (by rw[<-HBK.o];simpa using hq) hltB),K,HB⟩);case measure=>simp[intOf];omega
        ·(have HR:=H_ ((zjq l ⟨R,bk,A⟩).2 ⟨by simp[zbl];omega,by simpa using hq⟩));have⟨wz,hwz⟩:=x3_ w5 w R (.bool bk) A;have KZ:=K.o.set3 R (.bool bk) A;have HZ:=H_ (zhd HB.o (le_ _) R (.bool bk) A);rw[<-hwz]at KZ HZ;obtain⟨q0,q1,q2⟩:=KZ.c3;clear KZ;have⟨c0,c1,c2⟩:=K.o.c3;have⟨f0,f1,f2⟩:=K.o.f3;go_wp2;simp only[<-hwz];clear hwz;rw[HR.o];refine d_ (v:=zb2 (some ⟨R,bk,A⟩)) (by simp[results,results98,go_sem,q0,q1,q2,zb2,zal]) rfl ⟨rfl,HZ.o⟩
       ·(obtain rfl:B=2:=by omega);go_wp2;go_roundw
        (case rel=>exact⟨A+1,by omega,by go_num,H_ HN.o.next,K,HB⟩);case measure=>simp[intOf];omega
     ·(obtain rfl:A=40:=by omega);go_wp2;go_roundw
      (case rel=>exact⟨R+1,by omega,by go_num,H_ HN.o.next2,K,HB⟩);case measure=>simp[intOf];omega
   ·(obtain rfl:R=21:=by omega);have⟨wz,hwz⟩:=x3_ wr w (0:Int) (.bool false) (0:Int);have KZ:=K.o.set3 (0:Int) (.bool false) (0:Int);have HZ:=H_ (zhd HB.o (le_ _) (0:Int) (.bool false) (0:Int));rw[<-hwz]at KZ HZ;obtain⟨q0,q1,q2⟩:=KZ.c3;clear KZ;have⟨c0,c1,c2⟩:=K.o.c3;have⟨f0,f1,f2⟩:=K.o.f3;go_wp2;simp only[<-hwz];clear hwz;rw[zcn.all HN.o];refine d_ (v:=zb2 none) (by simp[results,results98,go_sem,q0,q1,q2,zb2,zal]) rfl ⟨rfl,HZ.o⟩
theorem zv8(l p:List UInt8)(s sep:ByteArray)(hs:s=⟨l.toArray⟩)(hp:sep=⟨p.toArray⟩)(w:World):
  Calls prog 84 #[.string s,.string sep] w λe w'=>e=.returned (.tuple #[.string ⟨(Lib.trimPrefix l p).toArray⟩,.bool (Lib.hasPrefix l p)])/\w=w':=by
 subst hs hp;exact(Tryz.strings_CutPrefix ⟨l.toArray⟩ ⟨p.toArray⟩ w).mono λe w' h=>⟨h.1,h.2.symm⟩
theorem zp6(l:List UInt8)(s:ByteArray)(hs:s=⟨l.toArray⟩)(w:World)(hE:Env w)(hl:l.length<=2097152):
  c_ 48 #[.string s] w (zcg (zba l)):=by
 subst hs;have⟨w0,hw0⟩:=xa_ w #[(0:Int),(0:Int),.bool false,(0:Int),(0:Int)] 69;have HB:Q_ (Below w w w0):=by rw[hw0];exact H_ ((B_ _ _).alloc (le_ _) _)
 have K:Q_ (Blk w (.cells #[(0:Int),(0:Int),.bool false,(0:Int),(0:Int)] 69) w0):=by rw[hw0];exact H_ (κ w _)
 have HE:=H_ (hE.below HB.o);clear hE
 go_enter func48,ntmps48
 go_wp2_with fail
 simp only[<-hw0];clear hw0;refine(zun l _ rfl _ HE.o hl).mono ?_;rintro e w1 ⟨rfl,hb⟩;replace HE:=H_ (HE.o.below hb);replace K:=K.kb hb;replace HB:=HB.ts hb;clear hb;cases hr:zbk l with
 | some m=>
  rw[z2b];have HR:=H_ (zoi hr);clear hr HE;have⟨w2,hw2⟩:=xa_ w1 #[.int .i64 m.which,.bool m.back,.int .i64 m.at_] 67;have hb:Below w1 w1 w2:=by rw[hw2];exact(B_ _ _).alloc (le_ _) _
  replace K:Q_ (Blk w (.cells #[(0:Int),(0:Int),.bool false,(0:Int),(0:Int)] 69) (w1.alloc (.cells #[.int .i64 m.which,.bool m.back,.int .i64 m.at_] 67))):=by rw[<-hw2];exact K.kb hb
  replace HB:Q_ (Below w w (w1.alloc (.cells #[.int .i64 m.which,.bool m.back,.int .i64 m.at_] 67))):=by rw[<-hw2];exact HB.ts hb
  clear hb hw2;have⟨wz,hwz⟩:=x5_ (w1.alloc (.cells #[.int .i64 m.which,.bool m.back,.int .i64 m.at_] 67)) w (0:Int) (.int .i64 m.which) (.bool m.back) (.int .i64 m.at_) (0:Int);have KZ:=K.o.set5 (0:Int) (.int .i64 m.which) (.bool m.back) (.int .i64 m.at_) (0:Int);have HZ:=H_ (ze1 HB.o (le_ _) (0:Int) (.int .i64 m.which) (.bool m.back) (.int .i64 m.at_) (0:Int));rw[<-hwz]at KZ HZ;obtain⟨q0,q1,q2,q3,q4⟩:=KZ.c5;clear KZ;have c0:=K.o.cell 0;have f0:=K.o.free 0;have c1:=K.o.cell 1;have f1:=K.o.free 1;have c2:=K.o.cell 2;have f2:=K.o.free 2;have c3:=K.o.cell 3;have f3:=K.o.free 3;have c4:=K.o.cell 4;have f4:=K.o.free 4;go_wp2;simp only[<-hwz];clear hwz;rw[HR.o];refine d_ (v:=zcg (some ⟨0,m,0⟩)) (by simp[results,results48,go_sem,q0,q1,q2,q3,q4,zcg]) rfl ⟨rfl,HZ.o⟩
 | none=>
  rw[zv0];have HR1:=H_ hr;clear hr;cases hsm:l==zed with
  | true=>
   have HR:=H_ (zrf (l:=l) (by simpa using hsm));have hsm':(l==[115,105,109,112,108,101])=true:=hsm;clear hsm HE;have hb:Below w1 w1 (w1.alloc (.cells #[(0:Int),.bool false,(0:Int)] 67)):=(B_ _ _).alloc (le_ _) _;replace K:=K.kb hb;replace HB:=HB.ts hb;clear hb;have⟨wz,hwz⟩:=x5_ (w1.alloc (.cells #[(0:Int),.bool false,(0:Int)] 67)) w (2:Int) (0:Int) (.bool false) (0:Int) (0:Int);have KZ:=K.o.set5 (2:Int) (0:Int) (.bool false) (0:Int) (0:Int);have HZ:=H_ (ze1 HB.o (le_ _) (2:Int) (0:Int) (.bool false) (0:Int) (0:Int));rw[<-hwz]at KZ HZ;obtain⟨q0,q1,q2,q3,q4⟩:=KZ.c5;clear KZ;have c0:=K.o.cell 0;have f0:=K.o.free 0;have c1:=K.o.cell 1;have f1:=K.o.free 1;have c2:=K.o.cell 2;have f2:=K.o.free 2;have c3:=K.o.cell 3;have f3:=K.o.free 3;have c4:=K.o.cell 4;have f4:=K.o.free 4;go_wp2;simp only[<-hwz];clear hwz;rw[HR.o];refine d_ (v:=zcg (some ⟨2,zal,0⟩)) (by simp[results,results48,go_sem,q0,q1,q2,q3,q4,zcg,zal]) rfl ⟨rfl,HZ.o⟩
  | false=>
   have HSM:=H_ hsm;have hsm':(l==[115,105,109,112,108,101])=false:=hsm;clear hsm;go_wp2_with fail
   have⟨w2,hw2⟩:=xa_ w1 #[(0:Int),.bool false,(0:Int)] 67;rw[<-hw2];have hb:Below w1 w1 w2:=by rw[hw2];exact(B_ _ _).alloc (le_ _) _
   replace HE:=H_ (HE.o.below hb);replace K:=K.kb hb;replace HB:=HB.ts hb;clear hb hw2;refine(zv8 l zbq _ _ rfl rfl _).mono ?_;rintro e w' ⟨rfl,rfl⟩;cases hp:Lib.hasPrefix l zbq with
   | false=>
    have HR:=H_ (zi7 HR1.o HSM.o (zug hp));clear hp;have⟨wz,hwz⟩:=x5_ w2 w (0:Int) (0:Int) (.bool false) (0:Int) (0:Int);have KZ:=K.o.set5 (0:Int) (0:Int) (.bool false) (0:Int) (0:Int);have HZ:=H_ (ze1 HB.o (le_ _) (0:Int) (0:Int) (.bool false) (0:Int) (0:Int));rw[<-hwz]at KZ HZ;obtain⟨q0,q1,q2,q3,q4⟩:=KZ.c5;clear KZ;have c0:=K.o.cell 0;have f0:=K.o.free 0;have c1:=K.o.cell 1;have f1:=K.o.free 1;have c2:=K.o.cell 2;have f2:=K.o.free 2;have c3:=K.o.cell 3;have f3:=K.o.free 3;have c4:=K.o.cell 4;have f4:=K.o.free 4;go_wp2;simp only[<-hwz];clear hwz;rw[HR.o];refine d_ (v:=zcg none) (by simp[results,results48,go_sem,q0,q1,q2,q3,q4,zhe]) rfl ⟨rfl,HZ.o⟩
   | true=>
    (have HNE:Q_ (l≠[]):=H_ (by intro h;rw[h] at hp;cases hp);have hpl:(Lib.trimPrefix l zbq).length<=l.length:=by unfold Lib.trimPrefix;rw[x_ hp];simp);have⟨p,hp1⟩:=ex_ (Lib.trimPrefix l zbq);rw[<-hp1]at hpl ⊢;have HP:=H_ hp1;clear hp1 hp;cases ha:zcx p with
    | none=>
     (have HR:=H_ (zi7 HR1.o HSM.o (zur (by rw[<-HP.o];exact ha)));go_wp2_with fail);refine(znk p _ rfl _ HE.o (by omega) ha).mono ?_;rintro e w3 ⟨n,t,q,rfl,hb⟩;replace K:=K.kb hb;replace HB:=HB.ts hb;clear hb ha HE;have hb:Below w3 w3 (w3.alloc (.cells #[(1:Int),(0:Int),.bool false,(0:Int),.int .i64 n] 69)):=(B_ _ _).alloc (le_ _) _;replace K:=K.kb hb;replace HB:=HB.ts hb;clear hb;have⟨wz,hwz⟩:=x5_ (w3.alloc (.cells #[(1:Int),(0:Int),.bool false,(0:Int),.int .i64 n] 69)) w (0:Int) (0:Int) (.bool false) (0:Int) (0:Int);have KZ:=K.o.set5 (0:Int) (0:Int) (.bool false) (0:Int) (0:Int);have HZ:=H_ (ze1 HB.o (le_ _) (0:Int) (0:Int) (.bool false) (0:Int) (0:Int));rw[<-hwz]at KZ HZ;obtain⟨q0,q1,q2,q3,q4⟩:=KZ.c5;clear KZ;have c0:=K.o.cell 0;have f0:=K.o.free 0;have c1:=K.o.cell 1;have f1:=K.o.free 1;have c2:=K.o.cell 2;have f2:=K.o.free 2;have c3:=K.o.cell 3;have f3:=K.o.free 3;have c4:=K.o.cell 4;have f4:=K.o.free 4;go_wp2;simp only[<-hwz];clear hwz;rw[HR.o];refine d_ (v:=zcg none) (by simp[results,results48,go_sem,q0,q1,q2,q3,q4,zhe]) rfl ⟨rfl,HZ.o⟩
    | some n=>
     go_wp2_with fail
     refine(zm9 p _ rfl n _ (by omega) ha).mono ?_;rintro e w3 ⟨rfl,hb⟩;have HA:=H_ ha;replace K:=K.kb hb;replace HB:=HB.ts hb;clear hb ha HE;go_wp2_with fail
     (have⟨w4,hw4⟩:=xa_ w3 #[(1:Int),(0:Int),.bool false,(0:Int),.int .i64 n] 69;rw[<-hw4];have hb:Below w3 w3 w4:=by rw[hw4];exact(B_ _ _).alloc (le_ _) _);(have K4:Q_ (Blk w3 (.cells #[(1:Int),(0:Int),.bool false,(0:Int),.int .i64 n] 69) w4):=by rw[hw4];exact H_ (κ _ _));replace K:=K.kb hb;replace HB:=HB.ts hb;clear hb hw4;refine(zyq ⟨1,zal,n⟩ _).mono ?_;rintro e w5 ⟨rfl,hb⟩;replace K4:=K4.kb hb;replace K:=K.kb hb;replace HB:=HB.ts hb;clear hb;have⟨d0,d1,d2,d3,d4⟩:=K4.o.c5;cases hq:(zaq ⟨1,zal,n⟩==l)
     ·(have HR:=H_ (zi7 HR1.o HSM.o (ztl (n:=n) (by rw[<-HP.o];exact HA.o) (by simpa using hq))));have⟨wz,hwz⟩:=x5_ w5 w (0:Int) (0:Int) (.bool false) (0:Int) (0:Int);have KZ:=K.o.set5 (0:Int) (0:Int) (.bool false) (0:Int) (0:Int);have HZ:=H_ (ze1 HB.o (le_ _) (0:Int) (0:Int) (.bool false) (0:Int) (0:Int));rw[<-hwz]at KZ HZ;obtain⟨q0,q1,q2,q3,q4⟩:=KZ.c5;clear KZ;have c0:=K.o.cell 0;have f0:=K.o.free 0;have c1:=K.o.cell 1;have f1:=K.o.free 1;have c2:=K.o.cell 2;have f2:=K.o.free 2;have c3:=K.o.cell 3;have f3:=K.o.free 3;have c4:=K.o.cell 4;have f4:=K.o.free 4;go_wp2;simp only[<-hwz];clear hwz;rw[HR.o];refine d_ (v:=zcg none) (by simp[results,results48,go_sem,q0,q1,q2,q3,q4,zhe]) rfl ⟨rfl,HZ.o⟩
     ·have HR:Q_ (zba l=some ⟨1,zal,n⟩):=by
       obtain⟨g1,g2,g3⟩:=zqo (n:=n) (l:=l) (by simpa using hq) HNE.o;have:=zsy g3;rw[show ((n.toNat:Nat):Int)=n by omega]at this;exact H_ this
      have⟨wz,hwz⟩:=x5_ w5 w (1:Int) (0:Int) (.bool false) (0:Int) n;have KZ:=K.o.set5 (1:Int) (0:Int) (.bool false) (0:Int) n;have HZ:=H_ (ze1 HB.o (le_ _) (1:Int) (0:Int) (.bool false) (0:Int) n);rw[<-hwz]at KZ HZ;obtain⟨q0,q1,q2,q3,q4⟩:=KZ.c5;clear KZ;have c0:=K.o.cell 0;have f0:=K.o.free 0;have c1:=K.o.cell 1;have f1:=K.o.free 1;have c2:=K.o.cell 2;have f2:=K.o.free 2;have c3:=K.o.cell 3;have f3:=K.o.free 3;have c4:=K.o.cell 4;have f4:=K.o.free 4;go_wp2;simp only[<-hwz];clear hwz;rw[HR.o];refine d_ (v:=zcg (some ⟨1,zal,n⟩)) (by simp[results,results48,go_sem,q0,q1,q2,q3,q4,zcg,zal]) rfl ⟨rfl,HZ.o⟩
def zhu(l:List UInt8)(n:Nat):Prop:=∀ k,k<n->k<100->zbq++Η k≠l
theorem zhu.step(h:zhu l n)(hne:zaq ⟨1,zal,n⟩≠l)(hn:n<100):zhu l (n+1):=by
 intro k hk h1;by_cases hlt:k<n
 ·exact h k hlt h1
 ·obtain rfl:k=n:=by omega
  rw[zlz,x_ (by omega)]at hne;exact hne
theorem zhu.all(h:zhu l 100):zdf l=none:=zit λk hk=>h k hk hk
theorem zxy(h:l.length<=4\/l.head?≠some 98):zdf l=none:=zit λn hn e=>by
 subst e;rcases h with h|h
 ·simp[zbq]at h
 ·exact h rfl
theorem zp4(h2:(l==zed)=false)(h3:zdf l=none):zba l=(zbk l).map λm=>⟨0,m,0⟩:=by
 cases h:zbk l with
 | some m=>rw[zoi h];rfl
 | none=>rw[zi7 h h2 h3];rfl
theorem eq98(c:UInt8):((c.toNat:Int)==98)=(c==98):=by
 rw[cm_];simp only[bu_]
 constructor
 ·intro h;apply cw_.1;simpa using (by omega:c.toNat=98)
 ·intro h;subst h;rfl
theorem zli(o:Option Mv):∃ m ok,m=o.getD zal/\ok=o.isSome/\zb2 o=.tuple #[.agg #[.int .i64 m.which,.bool m.back,.int .i64 m.at_],.bool ok]/\zcg (o.map λm=>⟨0,m,0⟩)=.tuple #[.agg #[(0:Int),.int .i64 m.which,.bool m.back,.int .i64 m.at_,(0:Int)],.bool ok]:=
 ⟨_,_,rfl,rfl,rfl,by cases o<;>rfl⟩
theorem zl8(l:List UInt8)(s:ByteArray)(hs:s=⟨l.toArray⟩)(w:World)(hl:l.length<=2097152):
    c_ 51 #[.string s] w (zcg (zba l)):=by
  subst hs;have⟨w0,hw0⟩:=xa_ w #[(0:Int),(0:Int),.bool false,(0:Int),(0:Int)] 69;have HB:Q_ (Below w w w0):=by rw[hw0];exact H_ ((B_ _ _).alloc (le_ _) _)
  have K:Q_ (Blk w (.cells #[(0:Int),(0:Int),.bool false,(0:Int),(0:Int)] 69) w0):=by rw[hw0];exact H_ (κ w _)
  cases hsm:l==zed with
  | true=>
    (have HR:=H_ (zrf (l:=l) (by simpa using hsm));have hsm':(l==[115,105,109,112,108,101])=true:=hsm;clear hsm);go_enter func51,ntmps51
    go_wp2;rw[HR.o];refine d_ (v:=zcg (some ⟨2,zal,0⟩)) (by simp[results,results51,go_sem,zcg,zal]) rfl ⟨rfl,(B_ _ _).alloc (le_ _) _⟩
  | false=>
    have hsm':(l==[115,105,109,112,108,101])=false:=hsm;have HSM:=H_ hsm;clear hsm;by_cases hgood:4<l.length/\l.head?=some 98
    · obtain⟨h4,h98⟩:=hgood
      obtain⟨r,rfl⟩:∃ r,l=98 :: r:=by
        cases l with
        | nil=>simp at h98
        | cons c r=>simp at h98;exact⟨r,by rw[h98]⟩
      (have hr4:4<=r.length:=by simp at h4;omega);clear h98 h4
      go_enter func51,ntmps51
      go_wp2_with fail
      simp only[<-hw0];clear hw0;go_loopw [4] (λi wr=>∃ n:Nat,n<=100/\i=.int .i64 n/\Q_ (zhu (98 :: r) n)/\Q_ (Blk w (.cells #[(0:Int),(0:Int),.bool false,(0:Int),(0:Int)] 69) wr)/\Q_ (Below w w wr)) (λi _=>100-(intOf i).toNat)
      case atStart=>exact⟨0,by omega,rfl,H_ (by intro k hk;omega),K,HB⟩
      case round=>
        clear HB K;obtain⟨n,hn,rfl,HN,K,HB⟩:=hrel;by_cases hlt:n<100
        · go_wp2_with fail
          refine(zsh ⟨1,zal,n⟩ _).mono ?_;rintro e w5 ⟨rfl,hb⟩;replace K:=K.kb hb;replace HB:=HB.ts hb;clear hb;cases hq:(zaq ⟨1,zal,n⟩==98 :: r)
          · go_wp2
            go_roundw
            (case rel=>exact⟨n+1,by omega,by go_num,H_ (HN.o.step (by simpa using hq) hlt),K,HB⟩);case measure=>simp[intOf];omega
          · have HR:Q_ (zba (98 :: r)=some ⟨1,zal,n⟩):=by
              obtain⟨g1,g2,g3⟩:=zqo (n:=n) (l:=98 :: r) (by simpa using hq) (by simp);exact H_ (zsy g3)
            have⟨wz,hwz⟩:=x5_ w5 w (1:Int) (0:Int) (.bool false) (0:Int) n;have KZ:=K.o.set5 (1:Int) (0:Int) (.bool false) (0:Int) n;have HZ:=H_ (ze1 HB.o (le_ _) (1:Int) (0:Int) (.bool false) (0:Int) n);rw[<-hwz]at KZ HZ;obtain⟨q0,q1,q2,q3,q4⟩:=KZ.c5;clear KZ;have c0:=K.o.cell 0;have f0:=K.o.free 0;have c1:=K.o.cell 1;have f1:=K.o.free 1;have c2:=K.o.cell 2;have f2:=K.o.free 2;have c3:=K.o.cell 3;have f3:=K.o.free 3;have c4:=K.o.cell 4;have f4:=K.o.free 4;go_wp2;simp only[<-hwz];clear hwz;rw[HR.o];refine d_ (v:=zcg (some ⟨1,zal,n⟩)) (by simp[results,results51,go_sem,q0,q1,q2,q3,q4,zcg,zal]) rfl ⟨rfl,HZ.o⟩
        · obtain rfl:n=100:=by omega
          (have HR:=H_ (zp4 HSM.o HN.o.all);go_wp2_with fail);obtain⟨m,ok,hm,hok,hq1,hq2⟩:=zli (zbk (98 :: r));have HQ1:=H_ hq1;have HQ2:=H_ hq2;clear hm hok hq1 hq2;refine(zmq (98 :: r) _ rfl _ hl).mono ?_;rintro e w6 ⟨rfl,hb⟩;rw[HQ1.o];replace K:=K.kb hb;replace HB:=HB.ts hb;clear hb;have hb:Below w6 w6 (w6.alloc (.cells #[.int .i64 m.which,.bool m.back,.int .i64 m.at_] 67)):=(B_ _ _).alloc (le_ _) _;replace K:=K.kb hb;replace HB:=HB.ts hb;clear hb;have⟨wz,hwz⟩:=x5_ (w6.alloc (.cells #[.int .i64 m.which,.bool m.back,.int .i64 m.at_] 67)) w (0:Int) (.int .i64 m.which) (.bool m.back) (.int .i64 m.at_) (0:Int);have KZ:=K.o.set5 (0:Int) (.int .i64 m.which) (.bool m.back) (.int .i64 m.at_) (0:Int);have HZ:=H_ (ze1 HB.o (le_ _) (0:Int) (.int .i64 m.which) (.bool m.back) (.int .i64 m.at_) (0:Int));rw[<-hwz]at KZ HZ;obtain⟨q0,q1,q2,q3,q4⟩:=KZ.c5;clear KZ;have c0:=K.o.cell 0;have f0:=K.o.free 0;have c1:=K.o.cell 1;have f1:=K.o.free 1;have c2:=K.o.cell 2;have f2:=K.o.free 2;have c3:=K.o.cell 3;have f3:=K.o.free 3;have c4:=K.o.cell 4;have f4:=K.o.free 4;go_wp2;simp only[<-hwz];clear hwz;rw[HR.o,HQ2.o];refine d_ (v:=.tuple #[.agg #[(0:Int),.int .i64 m.which,.bool m.back,.int .i64 m.at_,(0:Int)],.bool ok]) (by simp[results,results51,go_sem,q0,q1,q2,q3,q4]) rfl ⟨rfl,HZ.o⟩
    · have HR:=H_ (zp4 HSM.o (zxy (l:=l) (by
        rcases bi_ 4 l.length with h|h
        · right;intro h';exact hgood ⟨h,h'⟩
        · left;exact h)))
      by_cases h4:4<l.length
      · obtain⟨c,r,rfl⟩:∃ c r,l=c :: r:=by
          cases l with
          | nil=>simp at h4
          | cons c r=>exact⟨c,r,rfl⟩
        have hc:(c==98)=false:=by
          cases hc:c==98
          · rfl
          · exact absurd ⟨h4, by have : c = 98 := by simpa using hc
                                 rw[this];rfl⟩ hgood
        (have h0:0<(ByteArray.mk (c :: r).toArray).size:=by show 0<(c :: r).toArray.size;simp);(have hc':((((ByteArray.mk (c :: r).toArray)[0]'h0).toNat:Int)==98)=false:=by rw[idx0,eq98,hc]);(have hr4:4<=r.length:=by simp at h4;omega);clear hgood h4 hc
        go_enter func51,ntmps51
        go_wp2_with fail
        simp only[<-hw0];clear hw0;go_loopw [4] (λi wr=>i=.int .i64 0/\Q_ (Blk w (.cells #[(0:Int),(0:Int),.bool false,(0:Int),(0:Int)] 69) wr)/\Q_ (Below w w wr)) (λi _=>100-(intOf i).toNat)
        case atStart=>exact⟨rfl,K,HB⟩
        case round=>
          clear HB K;obtain⟨rfl,K,HB⟩:=hrel;go_wp2_with fail
          obtain⟨m,ok,hm,hok,hq1,hq2⟩:=zli (zbk (c :: r));have HQ1:=H_ hq1;have HQ2:=H_ hq2;clear hm hok hq1 hq2;refine(zmq (c :: r) _ rfl _ hl).mono ?_;rintro e w6 ⟨rfl,hb⟩;rw[HQ1.o];replace K:=K.kb hb;replace HB:=HB.ts hb;clear hb;have hb:Below w6 w6 (w6.alloc (.cells #[.int .i64 m.which,.bool m.back,.int .i64 m.at_] 67)):=(B_ _ _).alloc (le_ _) _;replace K:=K.kb hb;replace HB:=HB.ts hb;clear hb;have⟨wz,hwz⟩:=x5_ (w6.alloc (.cells #[.int .i64 m.which,.bool m.back,.int .i64 m.at_] 67)) w (0:Int) (.int .i64 m.which) (.bool m.back) (.int .i64 m.at_) (0:Int);have KZ:=K.o.set5 (0:Int) (.int .i64 m.which) (.bool m.back) (.int .i64 m.at_) (0:Int);have HZ:=H_ (ze1 HB.o (le_ _) (0:Int) (.int .i64 m.which) (.bool m.back) (.int .i64 m.at_) (0:Int));rw[<-hwz]at KZ HZ;obtain⟨q0,q1,q2,q3,q4⟩:=KZ.c5;clear KZ;have c0:=K.o.cell 0;have f0:=K.o.free 0;have c1:=K.o.cell 1;have f1:=K.o.free 1;have c2:=K.o.cell 2;have f2:=K.o.free 2;have c3:=K.o.cell 3;have f3:=K.o.free 3;have c4:=K.o.cell 4;have f4:=K.o.free 4;go_wp2;simp only[<-hwz];clear hwz;rw[HR.o,HQ2.o];refine d_ (v:=.tuple #[.agg #[(0:Int),.int .i64 m.which,.bool m.back,.int .i64 m.at_,(0:Int)],.bool ok]) (by simp[results,results51,go_sem,q0,q1,q2,q3,q4]) rfl ⟨rfl,HZ.o⟩
      · have h4':l.length<=4:=by omega
        clear hgood h4
        go_enter func51,ntmps51
        go_wp2_with fail
        simp only[<-hw0];clear hw0;go_loopw [4] (λi wr=>i=.int .i64 0/\Q_ (Blk w (.cells #[(0:Int),(0:Int),.bool false,(0:Int),(0:Int)] 69) wr)/\Q_ (Below w w wr)) (λi _=>100-(intOf i).toNat)
        case atStart=>exact⟨rfl,K,HB⟩
        case round=>
          clear HB K;obtain⟨rfl,K,HB⟩:=hrel;go_wp2_with fail
          obtain⟨m,ok,hm,hok,hq1,hq2⟩:=zli (zbk (l));have HQ1:=H_ hq1;have HQ2:=H_ hq2;clear hm hok hq1 hq2;refine(zmq (l) _ rfl _ hl).mono ?_;rintro e w6 ⟨rfl,hb⟩;rw[HQ1.o];replace K:=K.kb hb;replace HB:=HB.ts hb;clear hb;have hb:Below w6 w6 (w6.alloc (.cells #[.int .i64 m.which,.bool m.back,.int .i64 m.at_] 67)):=(B_ _ _).alloc (le_ _) _;replace K:=K.kb hb;replace HB:=HB.ts hb;clear hb;have⟨wz,hwz⟩:=x5_ (w6.alloc (.cells #[.int .i64 m.which,.bool m.back,.int .i64 m.at_] 67)) w (0:Int) (.int .i64 m.which) (.bool m.back) (.int .i64 m.at_) (0:Int);have KZ:=K.o.set5 (0:Int) (.int .i64 m.which) (.bool m.back) (.int .i64 m.at_) (0:Int);have HZ:=H_ (ze1 HB.o (le_ _) (0:Int) (.int .i64 m.which) (.bool m.back) (.int .i64 m.at_) (0:Int));rw[<-hwz]at KZ HZ;obtain⟨q0,q1,q2,q3,q4⟩:=KZ.c5;clear KZ;have c0:=K.o.cell 0;have f0:=K.o.free 0;have c1:=K.o.cell 1;have f1:=K.o.free 1;have c2:=K.o.cell 2;have f2:=K.o.free 2;have c3:=K.o.cell 3;have f3:=K.o.free 3;have c4:=K.o.cell 4;have f4:=K.o.free 4;go_wp2;simp only[<-hwz];clear hwz;rw[HR.o,HQ2.o];refine d_ (v:=.tuple #[.agg #[(0:Int),.int .i64 m.which,.bool m.back,.int .i64 m.at_,(0:Int)],.bool ok]) (by simp[results,results51,go_sem,q0,q1,q2,q3,q4]) rfl ⟨rfl,HZ.o⟩
def zfj(P:Value->Value->Value->Value->ByteArray->World->Prop)(e:Ending)(w':World):Prop:=∃ a b c d s,e=.returned (.tuple #[π a b c d,.string s])/\P a b c d s w'
def okS(b:Bool):ByteArray:=if b then ⟨#[111,107]⟩ else ⟨#[110,111]⟩
theorem zqw {o:Option Ac} {a:Ac}(h:o=some a):zcg o=.tuple #[zhb a,.bool true]:=by subst h;rfl
theorem z1v(lo hi:Nat)(a b c d:Value)(D:Dsk)(A:Ac)(l:List UInt8)(s:ByteArray)(hs:s=⟨l.toArray⟩)(w:World)(hE:za1 w)(hN:Env w)(hx:Ι lo hi w a b c d D)(hh:hi<=w)(hm:D.size<=1048576)(hv:Θ D=true)(hl:l.length<=2097152)(hr:zba l=some A):
  Calls prog 20 #[π a b c d,.string s] w (zfj λa' b' c' d' s' w'=>s'=okS (Χ D A).2/\Υ w w' w' a' b' c' d' (Χ D A).1/\Below w w w'):=by
 subst hs;have HM:=H_ hm;have⟨w0,hw0⟩:=ex_ ((w.alloc (.cells #[a,b,c,d] 31)).alloc (.cells #[(),(),(),()] 31));have hb0:Below w w w0:=by rw[hw0];exact((B_ _ _).alloc (le_ _) _).alloc (by simp) _
 have hs0:w0=w.heap.size+2:=by rw[hw0];simp
 have K1:Q_ (Blk w (.cells #[a,b,c,d] 31) w0):=by
  rw[hw0];exact H_ ((κ w _).below ((B_ (w.alloc _).heap.size _).alloc (le_ _) _) (by simp))
 have K3:Q_ (Blk (w+1) (.cells #[(),(),(),()] 31) w0):=by
  have h:=κ (w.alloc (.cells #[a,b,c,d] 31)) (.cells #[(),(),(),()] 31);rw[ν]at h;rw[hw0];exact H_ h
 have HX:=H_ (hx.below hb0 hh);have HB:=H_ hb0;have HE:=H_ (hE.below hb0);have HN:=H_ (hN.below hb0);have HW0:=H_ hw0;have HV:=H_ hv;have HRA:=H_ hr;clear hx hE hN hb0 hw0 hv hr hm;have⟨d0,d1,d2,d3⟩:=K1.o.c4
 go_enter func20,ntmps20
 go_wp2_with (rw[<-HW0.o])
 refine(zg5 _ _ a b c d D w0 HE.o HX.o (by omega) HM.o).mono ?_;rintro e1 w1 ⟨rfl,hb1⟩;rw[HV.o];have hs1:=hb1.size;replace HB:=HB.tr hb1 (by omega);replace K1:=K1.kb hb1;replace K3:=K3.kb hb1;replace HX:=H_ (HX.o.below hb1 (by omega));replace HE:=H_ (HE.o.below hb1);replace HN:=H_ (HN.o.below hb1);clear hb1 d0 d1 d2 d3;go_wp2_with fail
 refine(zp6 l _ rfl w1 HN.o hl).mono ?_;rintro e2 w2 ⟨rfl,hb2⟩;rw[zqw HRA.o];unfold zhb;have hs2:=hb2.size;replace HB:=HB.tr hb2 (by omega);replace K1:=K1.kb hb2;replace K3:=K3.kb hb2;replace HX:=H_ (HX.o.below hb2 (by omega));replace HE:=H_ (HE.o.below hb2);clear hb2 HN;have⟨w3,hw3⟩:=xa_ w2 #[.int .i64 A.kind,.int .i64 A.step.which,.bool A.step.back,.int .i64 A.step.at_,.int .i64 A.count] 69;obtain⟨hb3,KA_,hs3⟩:=Μ hw3;have KA:=H_ KA_;replace HB:=HB.tr hb3 (by omega);replace K1:=K1.kb hb3;replace K3:=K3.kb hb3;replace HX:=H_ (HX.o.below hb3 (by omega));replace HE:=H_ (HE.o.below hb3);have⟨d0,d1,d2,d3⟩:=K1.o.c4;have⟨a0,a1,a2,a3,a4⟩:=KA.o.c5;rw[hw3]at d0 d1 d2 d3 a0 a1 a2 a3 a4;clear hb3 KA_;go_wp2_with fail
 simp only[<-hw3];clear hw3 d0 d1 d2 d3 a0 a1 a2 a3 a4;refine(zv4 _ _ a b c d D A w3 HE.o HX.o (by omega) HM.o).mono ?_;rintro e4 w4 ⟨x0,x1,x2,x3,ok,rfl,o_,hok,hb4⟩;obtain⟨R,t,hR⟩:∃ R t,Χ D A=(R,t):=⟨_,_,rfl⟩;have HR:=H_ hR;rw[hR]at o_ hok;obtain rfl:ok=t:=hok;clear hR;obtain⟨z0,z1,z2,z3,z4,z5,z6,z7,rfl,rfl,rfl,rfl⟩:=o_.open;have hs4:=hb4.size;replace HB:=HB.tr hb4 (by omega);replace K3:=K3.kb hb4;have O4:=H_ (o_.wide (lo':=w.heap.size) (by omega) (le_ _));have O4':=H_ o_;clear hb4 o_ K1 HX HE KA;have⟨w5,hw5⟩:=xa_ w4 #[(.slice z0 R.first z1),(.slice z2 R.goal z3),(.slice z4 R.made z5),(.slice z6 R.now z7)] 31;obtain⟨hb5,K5,hs5⟩:=Μ hw5;replace HB:=HB.tr hb5 (by omega);replace K3:=K3.kb hb5;replace O4':=H_ (O4'.o.below hb5 (le_ _));obtain⟨k0,k1,k2,k3⟩:=K5.c4;have⟨c0,c1,c2,c3⟩:=K3.o.c4;have⟨f0,f1,f2,f3⟩:=K3.o.f4;have HW5:=H_ hw5;have⟨wz,hwz⟩:=x4_ w5 (w+1) (.slice z0 R.first z1) (.slice z2 R.goal z3) (.slice z4 R.made z5) (.slice z6 R.now z7);have KZ:=K3.o.set4 (.slice z0 R.first z1) (.slice z2 R.goal z3) (.slice z4 R.made z5) (.slice z6 R.now z7);have hO:=β.set4 (w+1) w5 (.slice z0 R.first z1) (.slice z2 R.goal z3) (.slice z4 R.made z5) (.slice z6 R.now z7);rw[<-hwz]at KZ hO;have hsz:=hO.size;have HZ:=H_ (δ HB.o hO (by omega) (by omega));have OZ:=H_ (O4'.o.outside hO (.inr (by omega)));obtain⟨q0,q1,q2,q3⟩:=KZ.c4;rw[hw5]at k0 k1 k2 k3 c0 c1 c2 c3 f0 f1 f2 f3 hwz;clear KZ hO hb5 K5 hw5;cases ok
 all_goals (
  go_wp2_with fail
  simp only[<-hwz])
 ·refine d_ (v:=.tuple #[π (.slice z0 R.first z1) (.slice z2 R.goal z3) (.slice z4 R.made z5) (.slice z6 R.now z7),.string ⟨#[110,111]⟩]) (by simp[results,results20,go_sem,q0,q1,q2,q3]) rfl ⟨_,_,_,_,_,rfl,?_,?_,HZ.o⟩
  ·rw[HR.o];rfl
  ·rw[HR.o];exact OZ.o.wide (by omega) (by omega)
 ·refine d_ (v:=.tuple #[π (.slice z0 R.first z1) (.slice z2 R.goal z3) (.slice z4 R.made z5) (.slice z6 R.now z7),.string ⟨#[111,107]⟩]) (by simp[results,results20,go_sem,q0,q1,q2,q3]) rfl ⟨_,_,_,_,_,rfl,?_,?_,HZ.o⟩
  ·rw[HR.o];rfl
  ·rw[HR.o];exact OZ.o.wide (by omega) (by omega)
def zb0:List UInt8->Nat
 | []=>0
 | c :: r=>if c.toNat=33 then min 2 (r.length+1) else if c.toNat=91 then (match (c :: r).findIdx? (·==93) with | some i=>i+1 | none=>0) else 1
def zfa(s:List UInt8):Option Int:=match s with
 | [c]=>if 97<=c.toNat/\c.toNat<=99 then some (16+((c.toNat:Int)-97)) else (zbo [c]).map λt=>((t:Nat):Int)
 | s=>(zbo s).map λt=>((t:Nat):Int)
def zdv(s:List UInt8):Option (List Int × List UInt8):=(zfa (s.take (zb0 s))).map λn=>([n],s.drop (zb0 s))
def ω(sum:PR):PR
 | []=>none
 | c :: r=>if c.toNat=40 then (match sum r with
   | some (e,d :: r2)=>if d.toNat=41 then some (e,r2) else none
   | _=>none) else zdv (c :: r)
def zc3(sum:PR):PR:=Φ 59 19 (zak (ω sum))
def zad:Nat->PR
 | 0=>λ_=>none
 | n+1=>Φ 43 20 (zc3 (zad n))
def zds(s:List UInt8):Option (List Int):=if s.length<=199 then (match zad 100 s with
  | some (e,[])=>if μ e then some e else none
  | _=>none) else none
theorem zne:∀ t,t<16->(Ω t).length<=5/\(Ω t)≠[]/\zb0 (Ω t)=(Ω t).length/\zfa (Ω t)=some ((t:Nat):Int)/\((Ω t).head?=some 33->(Ω t).length=2)/\((Ω t).head?=some 91->(Ω t).findIdx? (·==93)=some ((Ω t).length-1)) /\
  ((Ω t).head?≠some 33->(Ω t).head?≠some 91->(Ω t).length=1)/\(Ω t).head?≠some 40:=by decide +kernel
theorem zyd {t:List UInt8}(h1:zb0 t=t.length)(h2:t≠[])(h3:t.head?=some 33->t.length=2)(h4:t.head?=some 91->t.findIdx? (·==93)=some (t.length-1)):zb0 (t++r)=t.length:=by
 cases t with
 | nil=>exact absurd rfl h2
 | cons c t=>
  simp only[aj_,zb0]at h1 ⊢;by_cases c1:c.toNat=33
  ·rw[x_ c1]
   have:c=33:=ef_ c1;have:=h3 (by rw[this];rfl);simp only[I_,n_]at this ⊢;omega
  ·rw[m_ c1]at h1 ⊢
   by_cases c2:c.toNat=91
   ·rw[x_ c2]
    (have:c=91:=ef_ c2;have hf:=h4 (by rw[this];rfl))
    have e:(c :: (t++r)).findIdx? (·==93)=some ((c :: t).length-1):=by
     rw[<-List.cons_append,List.findIdx?_append,hf];rfl
    rw[e];simp
   ·rw[m_ c2]at h1 ⊢
    exact h1
theorem z1s(t:Nat)(ht:t<16)(r:List UInt8):zdv (Ω t++r)=some ([((t:Nat):Int)],r):=by
 obtain⟨_,h2,h3,h4,h5,h6,_⟩:=zne t ht;have h:=zyd (r:=r) h3 h2 h5 h6;rw[zdv,h,bl_,ch_,h4];rfl
theorem zwv(c:Nat)(h1:97<=c)(h2:c<=99)(r:List UInt8):zdv (UInt8.ofNat c :: r)=some ([16+((c:Int)-97)],r):=by
 have hc:(UInt8.ofNat c).toNat=c:=by simp;omega
 have hw:zb0 (UInt8.ofNat c :: r)=1:=by
  simp only[zb0,hc];rw[m_ (by omega),m_ (by omega)]
 rw[zdv,hw];simp only[List.take_succ_cons,ds_,List.drop_succ_cons,ci_,zfa,hc];rw[x_ ⟨h1,h2⟩];rfl
theorem zrz(s:List UInt8):zb0 s<=s.length:=by
 unfold zb0
 split
 ·simp
 ·rename_i c r
  split
  ·simp only[I_];omega
  ·split
   ·split
    ·rename_i i hi
     rw[bp_]at hi;have:=hi.1;simp only[I_]at this ⊢;omega
    ·omega
   ·simp
theorem zt7:zfa []=none:=by decide +kernel
theorem zoo(h:zdv s=some (e,r)):1<=zb0 s/\r=s.drop (zb0 s):=by
 unfold zdv at h;rw[W_]at h;obtain⟨n,h1,h2⟩:=h;injection h2 with _ h2;refine⟨?_,h2.symm⟩;rcases dv_ (zb0 s) with h0|h0
 ·rw[h0,ds_,zt7]at h1
  cases h1
 ·exact h0
theorem zw1:zcr zdv:=by
 intro s e r h;obtain⟨h1,h2⟩:=zoo h;exact⟨zb0 s,h1,zrz s,h2⟩
theorem zkx {sum:PR}(h:zcr sum):zcr (ω sum):=by
 intro s e r hs;cases s with
 | nil=>simp[ω] at hs
 | cons c t=>
  simp only[ω]at hs
  split at hs
  ·split at hs
   ·rename_i e' d r2 he
    split at hs
    ·injection hs with hs
     injection hs with h1 h2;subst h1 h2;obtain⟨k,h1,h2,h3⟩:=h _ _ _ he
     have hlt:k<t.length:=by
      have:=congrArg List.length h3;simp at this;omega
     refine⟨k+2,by omega,by simp;omega,?_⟩;rw[y_ hlt]at h3;injection h3
    ·cases hs
   ·cases hs
  ·exact zw1 _ _ _ hs
theorem zgz:∀ n,zcr (zad n)
 | 0=>by intro s e r h;cases h
 | n+1=>zjk (zjk (zi0 (zkx (zgz n))))
def Agr(p q:PR)(c:Nat):Prop:=∀ s e r,p s=some (e,r)->s.length<=c+r.length->q s=some (e,r)
theorem ends_len(h:zcr p){s r:List UInt8}{e:List Int}(hs:p s=some (e,r)):r.length+1<=s.length:=by
 obtain⟨k,h1,h2,h3⟩:=h _ _ _ hs;rw[h3,af_];omega
theorem ztb(h:Agr p q c):Agr (ω p) (ω q) (c+2):=by
 intro s e r hs hl;cases s with
 | nil=>simp[ω] at hs
 | cons d t=>
  simp only[ω]at hs ⊢
  split at hs
  ·rename_i hd
   rw[x_ hd]
   split at hs
   ·rename_i e' d' r2 he
    split at hs
    ·rename_i hd'
     injection hs with hs;injection hs with h1 h2;subst h1 h2;rw[h _ _ _ he (by simp only[I_]at hl ⊢;omega)];simp only;rw[x_ hd']
    ·cases hs
   ·cases hs
  ·rename_i hd
   rw[m_ hd];exact hs
theorem zzs(hp:zcr p):Agr (ω p) (ω q) 2:=by
 intro s e r hs hl;cases s with
 | nil=>simp[ω] at hs
 | cons d t=>
  simp only[ω]at hs ⊢
  split at hs
  ·split at hs
   ·rename_i e' d' r2 he
    split at hs
    ·injection hs with hs
     injection hs with h1 h2;subst h1 h2;have:=ends_len hp he;simp only[I_]at hl this;omega
    ·cases hs
   ·cases hs
  ·rename_i hd
   rw[m_ hd];exact hs
theorem zwj(h:Agr p q c):Agr (zak p) (zak q) c:=by
 intro s e r hs hl;simp only[zak,W_]at hs ⊢;obtain⟨⟨e1,r1⟩,h1,h2⟩:=hs;obtain⟨j,j1,j2⟩:=znt _ _ _ _ h2;replace j1:j<=r1.length:=j1;replace j2:r=r1.drop j:=j2;refine⟨(e1,r1),h _ _ _ h1 ?_,h2⟩;rw[j2,af_]at hl;omega
theorem zrc {op:Int}(hp:zcr p)(h:Agr p q c):∀ (n:Nat) (s:List UInt8) (e e':List Int) (r:List UInt8),Ζ sign op p n e s=some (e',r)->s.length<=c+r.length->Ζ sign op q n e s=some (e',r)
 | n,[],e,e',r,hs,_=>by cases n<;>exact hs
 | 0,d :: t,e,e',r,hs,_=>hs
 | n+1,d :: t,e,e',r,hs,hl=>by
  simp only[Ζ]at hs ⊢
  split at hs
  ·rename_i hd
   rw[x_ hd];simp only[M_]at hs ⊢;obtain⟨⟨e1,r1⟩,h1,h2⟩:=hs;obtain⟨j,j1,j2⟩:=zjb hp n _ _ _ _ h2;replace j1:j<=r1.length:=j1;replace j2:r=r1.drop j:=j2;have hrl:r.length=r1.length-j:=by rw[j2,af_]
   have:=ends_len hp h1;simp only[I_]at hl;exact⟨(e1,r1),h _ _ _ h1 (by omega),zrc hp h n _ _ _ _ h2 (by show r1.length<=_;omega)⟩
  ·rename_i hd
   rw[m_ hd];exact hs
theorem zpc {op:Int}(hp:zcr p)(h:Agr p q c):Agr (Φ sign op p) (Φ sign op q) c:=by
 intro s e r hs hl;simp only[Φ,M_]at hs ⊢;obtain⟨⟨e1,r1⟩,h1,h2⟩:=hs;obtain⟨j,j1,j2⟩:=zjb hp _ _ _ _ _ h2;replace j1:j<=r1.length:=j1;replace j2:r=r1.drop j:=j2;have hrl:r.length=r1.length-j:=by rw[j2,af_]
 have:=ends_len hp h1;exact⟨(e1,r1),h _ _ _ h1 (by omega),zrc hp h _ _ _ _ _ h2 (by show r1.length<=_;omega)⟩
theorem zno(hp:zcr p)(h:Agr (ω p) (ω q) c):Agr (Φ 43 20 (zc3 p)) (Φ 43 20 (zc3 q)) c:=
 zpc (zjk (zi0 (zkx hp))) (zpc (zi0 (zkx hp)) (zwj h))
theorem zov:∀ (k n:Nat),Agr (zad n) (zad (k+1)) (2*k+2)
 | _,0=>by intro s e r h;cases h
 | 0,n+1=>zno (zgz n) (zzs (zgz n))
 | k+1,n+1=>zno (zgz n) (ztb (zov k n))
theorem z1p(h:∀ s x,p s=some x->q s=some x)(c:Nat):Agr p q c:=λs e r hs _=>h s (e,r) hs
theorem zxu(h:∀ c,Agr p q c):∀ s x,p s=some x->q s=some x:=λs x hs=>h s.length s x.1 x.2 hs (by omega)
theorem zpr:∀ (n:Nat) (s:List UInt8) (x:List Int × List UInt8),zad n s=some x->zad (n+1) s=some x
 | 0,_,_,h=>by cases h
 | n+1,s,x,h=>by
  refine zxu (λc=>zno (zgz n) ?_) s x h;exact λs e r hs hl=>ztb (c:=c+s.length) (z1p (zpr n) _) s e r hs (by omega)
theorem zvu {m:Nat}(h:n<=m){s:List UInt8}{x:List Int × List UInt8}(hs:zad n s=some x):zad m s=some x:=by
 induction h with
 | refl=>exact hs
 | step _ ih=>exact zpr _ _ _ ih
theorem zsb(h:s.length<=199){n:Nat}(hn:100<=n):zad n s=zad 100 s:=by
 cases h1:zad 100 s with
 | some x=>exact zvu hn h1
 | none=>
  cases h2:zad n s with
  | none=>rfl
  | some x=>
   have:=zov 99 n s x.1 x.2 h2 (by omega);rw[h1]at this;cases this
def ξ:KT->Nat->List UInt8
 | .leaf n,_=>if n<=15 then Ω n.toNat else [UInt8.ofNat (97+(n-16).toNat)]
 | .star t,_=>ξ t 3++[42]
 | .bin p a b,s=>if (if p then 1 else 2)<s then 40 :: (ξ a (if p then 1 else 2)++(if p then 43 else 59) :: ξ b ((if p then 1 else 2)+1))++[41]
   else ξ a (if p then 1 else 2)++(if p then 43 else 59) :: ξ b ((if p then 1 else 2)+1)
theorem zi4(n:Int)(s:Nat):ξ (.leaf n) s=if n<=15 then Ω n.toNat else [UInt8.ofNat (97+(n-16).toNat)]:=rfl
theorem zjr(t:KT)(s:Nat):ξ (.star t) s=ξ t 3++[42]:=rfl
theorem zg4(a b:KT):ξ (.bin true a b) 1=ξ a 1++43 :: ξ b 2:=rfl
theorem znw(a b:KT):ξ (.bin true a b) 2=40 :: (ξ (.bin true a b) 1)++[41]:=rfl
theorem zjh(a b:KT):ξ (.bin true a b) 3=40 :: (ξ (.bin true a b) 1)++[41]:=rfl
theorem zin(a b:KT):ξ (.bin false a b) 1=ξ a 2++59 :: ξ b 3:=rfl
theorem zk9(a b:KT):ξ (.bin false a b) 2=ξ a 2++59 :: ξ b 3:=rfl
theorem zkb(a b:KT):ξ (.bin false a b) 3=40 :: (ξ (.bin false a b) 1)++[41]:=rfl
theorem zh9:∀ (t:KT),ξ t 0=ξ t 1
 | .leaf _=>rfl
 | .star _=>rfl
 | .bin true a b=>rfl
 | .bin false a b=>rfl
def KT.leaves:KT->Nat
 | .leaf _=>1
 | .star t=>t.leaves
 | .bin _ a b=>a.leaves+b.leaves
theorem zkp:∀ t:KT,2*t.leaves<=t.size+1
 | .leaf _=>by simp[KT.leaves,KT.size]
 | .star t=>by have:=zkp t;simp[KT.leaves,KT.size];omega
 | .bin _ a b=>by have:=zkp a;have:=zkp b;simp[KT.leaves,KT.size];omega
theorem zkr:∀ {t:KT},t.ok 0=true->∀ s,s<=3->(ξ t s).length<=3*t.size+2*t.leaves
 | .leaf n,h,s,_=>by
  simp only[KT.ok,j_,t_]at h;rw[zi4];simp only[KT.size,KT.leaves]
  split
  ·have:=(zne n.toNat (by omega)).1
   omega
  ·simp
 | .star t,h,s,_=>by
  have:=zkr (t:=t) h 3 (by omega);rw[zjr];simp only[KT.size,KT.leaves,n_,I_,an_];omega
 | .bin p a b,h,s,_=>by
  simp only[KT.ok,j_]at h;have ha:=zkr h.1;have hb:=zkr h.2;simp only[KT.size,KT.leaves];have hs:s=0\/s=1\/s=2\/s=3:=by omega
  cases p
  ·have ha2:=ha 2 (by omega)
   have hb3:=hb 3 (by omega);rcases hs with rfl|rfl|rfl|rfl<;>simp[ξ]<;>omega
  ·have ha2:=ha 1 (by omega)
   have hb3:=hb 2 (by omega);rcases hs with rfl|rfl|rfl|rfl<;>simp[ξ]<;>omega
theorem zdo(h:t.ok 0=true)(hs:t.size<=40)(s:Nat)(h3:s<=3):(ξ t s).length<=199:=by
 have h1:=zkr h s h3;have h2:=zkp t;omega
def zc4(l:List Nat)(r:List UInt8):Prop:=∀ c t,r=c :: t->c.toNat ∉ l
theorem zod(l:List Nat):zc4 l []:=λc t h=>by cases h
theorem zhl {l:List Nat} {c:UInt8} {t:List UInt8}(h:c.toNat ∉ l):zc4 l (c :: t):=λc' t' e=>by injection e with e _;rw[<-e];exact h
theorem zc4.mono {l m:List Nat}(h:zc4 m r)(hs:∀ x∈l,x∈m):zc4 l r:=λc t e hc=>h c t e (hs _ hc)
theorem zmh(h:zc4 [42] r)(e:List Int):zab e r=(e,r):=by
 cases r with
 | nil=>rfl
 | cons c t=>
  have:=h c t rfl;simp only[k_]at this;rw[zab,m_ this]
theorem zhk {op:Int}(h:zc4 [sign] r)(n:Nat)(e:List Int):Ζ sign op p n e r=some (e,r):=by
 cases r with
 | nil=>cases n<;>rfl
 | cons c t=>
  have:=h c t rfl;simp only[k_]at this;cases n<;>rw[Ζ,m_ this]
theorem zng {op:Int}(hp:zcr p):∀ (N:Nat) (s:List UInt8),s.length<=N->∀ (n m:Nat) (e:List Int),s.length<=n->s.length<=m->Ζ sign op p n e s=Ζ sign op p m e s
 | _,[],_,n,m,e,_,_=>by cases n<;>cases m<;>rfl
 | 0,c :: t,h,_,_,_,_,_=>by simp at h
 | N+1,c :: t,h,n,m,e,hn,hm=>by
  simp only[I_]at h hn hm;obtain⟨n,rfl⟩:∃ k,n=k+1:=⟨n-1,by omega⟩;obtain⟨m,rfl⟩:∃ k,m=k+1:=⟨m-1,by omega⟩;simp only[Ζ]
  split
  ·cases hx:p t with
   | none=>rfl
   | some x=>
    have:=ends_len (s:=t) (r:=x.2) (e:=x.1) hp hx;simp only[ab_];exact zng hp N x.2 (by omega) n m _ (by omega) (by omega)
  ·rfl
theorem zps {x:List UInt8}(h:p (x++41 :: r)=some (e,41 :: r)):ω p (40 :: x++[41]++r)=some (e,r):=by
 rw[show 40 :: x++[41]++r=40 :: (x++41 :: r) by simp];simp only[ω];rw[x_ (by rfl),h];simp only;rw[x_ (by rfl)]
theorem z1b {t:Nat}(ht:t<16)(r:List UInt8){p:PR}:ω p (Ω t++r)=zdv (Ω t++r):=by
 obtain⟨_,h2,_,_,_,_,_,h8⟩:=zne t ht;cases hx:Ω t with
 | nil=>exact absurd hx h2
 | cons c s=>
  rw[hx]at h8;simp only[aj_,ω];rw[m_];intro hc;have:c=40:=ef_ hc;rw[this]at h8;exact h8 rfl
structure RdK(n:Nat)(t:KT):Prop where
 r3:∀ r,zak (ω (zad n)) (ξ t 3++r)=some (zab t.post r)
 r2:∀ r,zc4 [42] r->zc3 (zad n) (ξ t 2++r)=Ζ 59 19 (zak (ω (zad n))) r.length t.post r
 r1:∀ r,zc4 [42,59] r->zad (n+1) (ξ t 1++r)=Ζ 43 20 (zc3 (zad n)) r.length t.post r
theorem zqz(n:Nat):zcr (zak (ω (zad n))):=zi0 (zkx (zgz n))
theorem zua(n:Nat):zcr (zc3 (zad n)):=zjk (zqz n)
theorem zsv(h1:ξ t 2=ξ t 3)(h2:ξ t 1=ξ t 3)(h3:∀ r,zak (ω (zad n)) (ξ t 3++r)=some (zab t.post r)):RdK n t:=by
 have r2:∀ r,zc4 [42] r->zc3 (zad n) (ξ t 2++r)=Ζ 59 19 (zak (ω (zad n))) r.length t.post r:=λr hr=>by
  rw[h1,zc3,Φ,h3,zmh hr];rfl
 refine⟨h3,r2,λr hr=>?_⟩;have hr1:zc4 [42] r:=hr.mono (by simp);have:=r2 r hr1;rw[zhk (hr.mono (by simp))]at this;rw[h2,<-h1]
 show Φ 43 20 (zc3 (zad n)) _=_
 rw[Φ,this];rfl
theorem ze7:∀ (n:Nat) (t:KT),t.ok 0=true->t.size<=n->RdK n t
 | n,.leaf k,h,hs=>by
  simp only[KT.ok,j_,t_]at h;refine zsv rfl rfl λr=>?_
  rw[zi4]
  split
  ·rename_i hk
   have hl:=z1s k.toNat (by omega) r;rw[zak,z1b (by omega),hl,cn_];rw[show ((k.toNat:Nat):Int)=k by omega];rfl
  ·have hl:=zwv (97+(k-16).toNat) (by omega) (by omega) r
   have hc:(UInt8.ofNat (97+(k-16).toNat)).toNat=97+(k-16).toNat:=by simp;omega
   rw[zak,dj_];simp only[ω,hc];rw[m_ (by omega),hl,cn_];rw[show 16+(((97+(k-16).toNat:Nat):Int)-97)=k by omega];rfl
 | n,.star t,h,hs=>by
  simp only[KT.size]at hs;have ih:=ze7 n t h (by omega);refine zsv rfl rfl λr=>?_
  rw[zjr,Z_,ih.r3];simp only[dj_,zab];rw[x_ (by rfl)];rfl
 | 0,.bin _ _ _,_,hs=>by simp[KT.size] at hs
 | n+1,.bin true a b,h,hs=>by
  simp only[KT.ok,j_]at h;simp only[KT.size]at hs;have iha:=ze7 (n+1) a h.1 (by omega);have ihb:=ze7 (n+1) b h.2 (by omega)
  have q1:∀ (m:Nat),RdK m a->RdK m b->∀ r,zc4 [42,59] r->zad (m+1) (ξ (.bin true a b) 1++r)=Ζ 43 20 (zc3 (zad m)) r.length (KT.bin true a b).post r:=λm ia ib r hr=>by
   rw[zg4,Z_,aj_,ia.r1 _ (zhl (by decide))];have hb:=ib.r2 r (hr.mono (by simp));rw[zhk (hr.mono (by simp))]at hb;rw[I_,Ζ,x_ (by rfl),hb];simp only[ab_];exact zng (zua m) _ r (le_ _) _ _ _ (by simp) (le_ _)
  have q3:∀ r,zak (ω (zad (n+1))) (ξ (.bin true a b) 3++r)=some (zab (KT.bin true a b).post r):=λr=>by
   have h0:=q1 n (ze7 n a h.1 (by omega)) (ze7 n b h.2 (by omega)) (41 :: r) (zhl (by decide));rw[zhk (zhl (by decide))]at h0;rw[zjh,zak,zps h0];rfl
  have q2:∀ r,zc4 [42] r->zc3 (zad (n+1)) (ξ (.bin true a b) 2++r)=Ζ 59 19 (zak (ω (zad (n+1)))) r.length (KT.bin true a b).post r:=λr hr=>by
   have:=q3 r;rw[zmh hr]at this;rw[show ξ (.bin true a b) 2=ξ (.bin true a b) 3 from rfl,zc3,Φ,this];rfl
  exact⟨q3,q2,q1 (n+1) iha ihb⟩
 | n+1,.bin false a b,h,hs=>by
  simp only[KT.ok,j_]at h;simp only[KT.size]at hs;have iha:=ze7 (n+1) a h.1 (by omega);have ihb:=ze7 (n+1) b h.2 (by omega)
  have q2:∀ (m:Nat),RdK m a->RdK m b->∀ r,zc4 [42] r->zc3 (zad m) (ξ (.bin false a b) 2++r)=Ζ 59 19 (zak (ω (zad m))) r.length (KT.bin false a b).post r:=λm ia ib r hr=>by
   rw[zk9,Z_,aj_,ia.r2 _ (zhl (by decide))];have hb:=ib.r3 r;rw[zmh hr]at hb;rw[I_,Ζ,x_ (by rfl),hb];simp only[ab_];exact zng (zqz m) _ r (le_ _) _ _ _ (by simp) (le_ _)
  have q1:∀ (m:Nat),RdK m a->RdK m b->∀ r,zc4 [42,59] r->zad (m+1) (ξ (.bin false a b) 1++r)=Ζ 43 20 (zc3 (zad m)) r.length (KT.bin false a b).post r:=λm ia ib r hr=>by
   have:=q2 m ia ib r (hr.mono (by simp));rw[zhk (hr.mono (by simp))]at this;rw[show ξ (.bin false a b) 1=ξ (.bin false a b) 2 from rfl]
   show Φ 43 20 (zc3 (zad m)) _=_
   rw[Φ,this];rfl
  have q3:∀ r,zak (ω (zad (n+1))) (ξ (.bin false a b) 3++r)=some (zab (KT.bin false a b).post r):=λr=>by
   have h0:=q1 n (ze7 n a h.1 (by omega)) (ze7 n b h.2 (by omega)) (41 :: r) (zhl (by decide));rw[zhk (zhl (by decide))]at h0;rw[zkb,zak,zps h0];rfl
  exact⟨q3,q2 (n+1) iha ihb,q1 (n+1) iha ihb⟩
theorem z1l(h:t.ok 0=true)(hs:t.size<=40):zds (ξ t 1)=some t.post:=by
 have hl:=zdo h hs 1 (by omega);have h1:=(ze7 100 t h (by omega)).r1 [] (zod _);rw[cx_,zhk (zod _),zsb hl (by omega)]at h1;rw[zds,x_ hl,h1];simp only;rw[x_ (zky h hs)]
section
theorem znu(w:World)(x:Nat):
  Sem.run prog (convert 40 9 (.slice (q_ w 0) 1 1)) (w.alloc (.cells #[.int .u8 (x:Int)] 5))=.ok (.string ⟨#[UInt8.ofNat x]⟩) (w.alloc (.cells #[.int .u8 (x:Int)] 5)):=by
 have h:=zih (P:=prog) 40 9 5 underlying40 underlying5 underlying9 w [(x:Int)];simp only[I_,an_,df_,c3_,U_,b0_]at h;exact h
theorem zb9(l t:List UInt8):ByteArray.mk l.toArray++ByteArray.mk t.toArray=ByteArray.mk (l++t).toArray:=by
 apply cd_;simp
theorem SlI.cellS {lo hi cap b off:Nat} {w:World}(h:SlI lo hi w (.slice (q_ b off) n cap) xs)(i:Nat)(hi':i<xs.length):w.cell? (p_ b (off+i))=some (.int .i64 xs[i]):=by
 obtain⟨b',off',e,_,_,_,hc⟩:=h.get i hi';injection e with e;injection e with e1 e2;subst e1 e2;exact hc
def TxtC(t:KT):Prop:=∀ (k lo hi:Nat) (v:Value) (w:World),SlI lo hi w v t.post->t.ok 0=true->t.size<=40->k<=3->hi<=w ->
 c_ 103 #[v,.int .i64 k] w (.string ⟨(ξ t k).toArray⟩)
theorem zz6:∀ t:KT,TxtC t:=by
 intro t
 induction t with
 | leaf n=>
  intro k lo hi v w hx hok hs hk hh;simp only[KT.ok,j_,t_]at hok;obtain⟨hn0,hn18⟩:=hok;obtain⟨a,cap,rfl,_,_⟩:=ο hx;obtain⟨b,off,rfl,hb1,hb2,hb3,hcell⟩:=hx.get 0 (by simp[KT.post]);have hc1:w.cell? (p_ b off)=some (.int .i64 n):=hcell;have hlen:(KT.leaf n).post.length=1:=rfl;rw[hlen];clear hx hlen hcell;by_cases h15:n<=15
  ·obtain⟨m,rfl⟩:∃ m:Nat,n=m:=⟨n.toNat,by omega⟩
   have HT:=H_ (show ξ (.leaf (m:Int)) k=Ω m by rw[zi4,x_ h15];rfl)
   go_enter func103,ntmps103
   go_wp2_with fail
   refine(zj3 m (by omega) w).mono ?_;rintro e w1 ⟨rfl,hb⟩;have HB:=H_ hb;clear hb;go_wp2;go_ret;exact⟨by rw[HT.o];rfl,HB.o⟩
  ·have h3:n=16\/n=17\/n=18:=by omega
   rcases h3 with rfl|rfl|rfl
   ·(have hcv:Sem.run prog (convert 40 9 (.slice (q_ w 0) 1 1)) (w.alloc (.cells #[.int .u8 97] 5))=.ok (.string ⟨#[97]⟩) (w.alloc (.cells #[.int .u8 97] 5)):=znu w 97);go_enter func103,ntmps103
    go_wp2;go_ret;exact⟨rfl,η _ _⟩
   ·(have hcv:Sem.run prog (convert 40 9 (.slice (q_ w 0) 1 1)) (w.alloc (.cells #[.int .u8 98] 5))=.ok (.string ⟨#[98]⟩) (w.alloc (.cells #[.int .u8 98] 5)):=znu w 98);go_enter func103,ntmps103
    go_wp2;go_ret;exact⟨rfl,η _ _⟩
   ·(have hcv:Sem.run prog (convert 40 9 (.slice (q_ w 0) 1 1)) (w.alloc (.cells #[.int .u8 99] 5))=.ok (.string ⟨#[99]⟩) (w.alloc (.cells #[.int .u8 99] 5)):=znu w 99);go_enter func103,ntmps103
    go_wp2;go_ret;exact⟨rfl,η _ _⟩
 | star x ih=>
  intro k lo hi v w hx hok hs hk hh;have hokx:x.ok 0=true:=hok;simp only[KT.size]at hs;have hlen:(KT.star x).post.length=x.size+1:=by rw[za2];rfl
  obtain⟨a,cap,rfl,_,hcm⟩:=ο hx;unfold maxLen at hcm;obtain⟨b,off,rfl⟩:=hx.notNil (by omega)
  have HSX:Q_ (SlI lo hi w (.slice (q_ b off) x.size cap) x.post):=H_ (by
   have h2:=hx.sub 0 x.size (aw_ _) (by omega)
   simpa [KT.post,<-za2] using h2)
  have hc1:w.cell? (p_ b (off+x.size))=some (.int .i64 21):=by
   have:=hx.cellS x.size (by omega);rw[this];simp[KT.post,<-za2]
  have e4:x.size<=cap:=by obtain⟨_,_,e,h,_⟩:=hx;injection e with _ _ e;omega
  have HTX:=H_ (show ξ (.star x) k=ξ x 3++[42] from zjr x k);rw[hlen];have hb3:(ξ x 3).length<=199:=zdo hokx (by omega) 3 (by omega);have IH:=H_ ih;clear ih hok hx
  go_enter func103,ntmps103
  go_wp2_with fail
  refine(IH.o 3 lo hi _ w HSX.o hokx (by omega) (by omega) hh).mono ?_;rintro e w1 ⟨rfl,hb⟩;have HB:=H_ hb;clear hb;go_wp2;go_ret;exact⟨by rw[HTX.o,<-zb9];rfl,HB.o⟩
 | bin p x y ihx ihy=>
  intro k lo hi v w hx hok hs hk hh;simp only[KT.ok,j_]at hok;obtain⟨hokx,hoky⟩:=hok;simp only[KT.size]at hs;have hlen:(KT.bin p x y).post.length=x.size+y.size+1:=by rw[za2];rfl
  have HALF:=H_ (show Calls prog 156 #[v] w (zij λa b w2=>Below w w w2/\SlI lo hi w2 a x.post/\SlI lo hi w2 b y.post) from
   (zhi lo hi v 0 p x y w hx (by omega) hoky).mono (by rintro e w2 ⟨va,vb,rfl,⟨m,rfl⟩,ha,hb⟩;exact⟨va,vb,rfl,ai_ (B_ _ _) m,ha,hb⟩))
  obtain⟨a,cap,rfl,_,hcm⟩:=ο hx;unfold maxLen at hcm;obtain⟨b,off,rfl⟩:=hx.notNil (by omega)
  have hc1:w.cell? (p_ b (off+(x.size+y.size)))=some (.int .i64 (KT.op p)):=by
   have:=hx.cellS (x.size+y.size) (by omega);rw[this];simp[KT.post,<-za2]
  rw[hlen]at HALF ⊢;have hb1:(ξ x 1).length<=199:=zdo hokx (by omega) 1 (by omega);have hb2:(ξ x 2).length<=199:=zdo hokx (by omega) 2 (by omega);have hc2:(ξ y 2).length<=199:=zdo hoky (by omega) 2 (by omega);have hc3:(ξ y 3).length<=199:=zdo hoky (by omega) 3 (by omega);have IHX:=H_ ihx;have IHY:=H_ ihy;clear ihx ihy hx;cases p
  ·have hop:KT.op false=19:=rfl
   rw[hop]at hc1
   have HSIMPLE:=H_ (show ¬2<k->ξ (.bin false x y) k=ξ x 2++[59]++ξ y 3 from λh=>by
    (have h3:k=0\/k=1\/k=2:=by omega);rcases h3 with rfl|rfl|rfl<;>first|(exfalso;omega)|simp[zh9,zin,zk9,zkb])
   have HBR:=H_ (show 2<k->ξ (.bin false x y) k=[40]++(ξ x 2++[59]++ξ y 3)++[41] from λh=>by
    (have h3:k=2\/k=3:=by omega);rcases h3 with rfl|rfl<;>first|(exfalso;omega)|simp[zh9,zin,zk9,zkb])
   go_enter func103,ntmps103
   go_wp2_with fail
   refine HALF.o.mono ?_;rintro e w2 ⟨va,vb,rfl,h_,ha,hb⟩;have hs2:=h_.size;have HB:=H_ h_;have HA:=H_ ha;have HY:=H_ hb;obtain⟨aa,ac,rfl,_,_⟩:=ο ha;obtain⟨ba,bc,rfl,_,_⟩:=ο hb;clear h_ ha hb HALF;go_wp2_with fail
   refine(IHX.o 2 lo hi _ w2 HA.o hokx (by omega) (by omega) (by omega)).mono ?_;rintro e w3 ⟨rfl,hb⟩;have hs3:=hb.size;replace HB:=HB.ts hb;replace HY:=H_ (HY.o.below hb (by omega));clear hb HA;go_wp2_with fail
   refine(IHY.o 3 lo hi _ w3 HY.o hoky (by omega) (by omega) (by omega)).mono ?_;rintro e w4 ⟨rfl,hb⟩;replace HB:=HB.ts hb;clear hb HY;by_cases hk1:2<k
   ·(have hk2:(2:Int)<(k:Int):=by omega);have HF:=H_ (HBR.o hk1);go_wp2;go_ret;exact⟨by rw[HF.o,<-zb9,<-zb9,<-zb9,<-zb9];rfl,HB.o⟩
   ·(have hk2:¬(2:Int)<(k:Int):=by omega);have HF:=H_ (HSIMPLE.o hk1);go_wp2;go_ret;exact⟨by rw[HF.o,<-zb9,<-zb9];rfl,HB.o⟩
  ·have hop:KT.op true=20:=rfl
   rw[hop]at hc1
   have HSIMPLE:=H_ (show ¬1<k->ξ (.bin true x y) k=ξ x 1++[43]++ξ y 2 from λh=>by
    (have h3:k=0\/k=1\/k=2:=by omega);rcases h3 with rfl|rfl|rfl<;>first|(exfalso;omega)|simp[zh9,zg4,znw,zjh])
   have HBR:=H_ (show 1<k->ξ (.bin true x y) k=[40]++(ξ x 1++[43]++ξ y 2)++[41] from λh=>by
    (have h3:k=2\/k=3:=by omega);rcases h3 with rfl|rfl<;>first|(exfalso;omega)|simp[zh9,zg4,znw,zjh])
   go_enter func103,ntmps103
   go_wp2_with fail
   refine HALF.o.mono ?_;rintro e w2 ⟨va,vb,rfl,h_,ha,hb⟩;have hs2:=h_.size;have HB:=H_ h_;have HA:=H_ ha;have HY:=H_ hb;obtain⟨aa,ac,rfl,_,_⟩:=ο ha;obtain⟨ba,bc,rfl,_,_⟩:=ο hb;clear h_ ha hb HALF;go_wp2_with fail
   refine(IHX.o 1 lo hi _ w2 HA.o hokx (by omega) (by omega) (by omega)).mono ?_;rintro e w3 ⟨rfl,hb⟩;have hs3:=hb.size;replace HB:=HB.ts hb;replace HY:=H_ (HY.o.below hb (by omega));clear hb HA;go_wp2_with fail
   refine(IHY.o 2 lo hi _ w3 HY.o hoky (by omega) (by omega) (by omega)).mono ?_;rintro e w4 ⟨rfl,hb⟩;replace HB:=HB.ts hb;clear hb HY;by_cases hk1:1<k
   ·(have hk2:(1:Int)<(k:Int):=by omega);have HF:=H_ (HBR.o hk1);go_wp2;go_ret;exact⟨by rw[HF.o,<-zb9,<-zb9,<-zb9,<-zb9];rfl,HB.o⟩
   ·(have hk2:¬(1:Int)<(k:Int):=by omega);have HF:=H_ (HSIMPLE.o hk1);go_wp2;go_ret;exact⟨by rw[HF.o,<-zb9,<-zb9];rfl,HB.o⟩
theorem zum(lo hi:Nat)(v:Value)(t:KT)(w:World)(hx:SlI lo hi w v t.post)(hok:t.ok 0=true)(hs:t.size<=40)(hh:hi<=w):
  c_ 53 #[v] w (.string ⟨(ξ t 1).toArray⟩):=by
 have hkv:=zky hok hs;have hl:t.post.length<=40:=by rw[za2];exact hs
 obtain⟨a,cap,rfl,_,_⟩:=ο hx;have HX:=H_ hx;clear hx
 go_enter func53,ntmps53
 go_wp2_with fail
 refine(zai _ _ _ t.post _ HX.o (by omega)).mono ?_;rintro e w1 ⟨rfl,rfl⟩;rw[hkv];go_wp2_with fail
 refine(zz6 t 0 lo hi _ w HX.o hok hs (by omega) hh).mono ?_;rintro e w2 ⟨rfl,hb⟩;have HB:=H_ hb;have HT:=H_ (zh9 t);clear hb;go_wp2;go_ret;exact⟨by rw[HT.o];rfl,HB.o⟩
end
def za7(e:List Int):List UInt8:=if μ e then ξ (Ο e) 1 else []
theorem zyx(e:List Int):(za7 e).length<=199:=by
 unfold za7
 split
 ·rename_i h
  obtain⟨t,h1,h2,_,h4⟩:=zd6 h;rw[<-h2,zcy h1];exact zdo h1 h4 1 (by omega)
 ·simp
theorem zqu(h:t.ok 0=true)(hs:t.size<=40):za7 t.post=ξ t 1:=by
 rw[za7,x_ (zky h hs),zcy h]
theorem zln(lo hi:Nat)(v:Value)(es:List Int)(w:World)(hx:SlI lo hi w v es)(hm:es.length<=1048576)(hh:hi<=w):
  c_ 53 #[v] w (.string ⟨(za7 es).toArray⟩):=by
 cases hk:μ es with
 | true=>
  obtain⟨t,h1,h2,_,h4⟩:=zd6 hk;subst h2;rw[zqu h1 h4];exact zum lo hi v t w hx h1 h4 hh
 | false=>
  have HT:=H_ (show za7 es=[] by rw[za7,hk];rfl);obtain⟨a,cap,rfl,_,_⟩:=ο hx;have HX:=H_ hx;clear hx
  go_enter func53,ntmps53
  go_wp2_with fail
  refine(zai _ _ _ es _ HX.o (by omega)).mono ?_;rintro e w1 ⟨rfl,rfl⟩;rw[hk];go_wp2;go_ret;exact⟨by rw[HT.o];rfl,B_ _ _⟩
def zfy(n:Int):Bool:=decide (0<=n)&&decide (n<=3)
def zd0(i:Nat)(x:Int):Bool:=if i%2=0 then zfy x else zat x
def zej:Nat->List Int->Bool
 | _,[]=>true
 | i,x :: r=>zd0 i x&&zej (i+1) r
def zb8(xs:List Int):Bool:=decide (xs.length%2=1)&&decide (xs.length<=41)&&zej 0 xs
theorem zsc(xs:List Int)(k:Nat)(h:k<xs.length):zej k (xs.drop k)=(zd0 k xs[k]&&zej (k+1) (xs.drop (k+1))):=by
 rw[y_ h];rfl
theorem zqk(xs:List Int)(k:Nat)(h:xs.length<=k):zej k (xs.drop k)=true:=by
 rw[az_ h];rfl
theorem zq8(xs:List Int):∀ (i k:Nat) (h:k<xs.length),zej i xs=true->zd0 (i+k) xs[k]=true:=by
 induction xs with
 | nil=>intro i k h;simp at h
 | cons x r ih=>
  intro i k h ht;simp only[zej,j_]at ht;cases k with
  | zero=>exact ht.1
  | succ k=>
   have:=ih (i+1) k (by simpa using h) ht.2;rw[show i+(k+1)=i+1+k by omega];exact this
theorem zrq(h:zb8 xs=true)(k:Nat)(hk:k<xs.length)(hp:k%2=0):0<=xs[k]/\xs[k]<=3:=by
 simp only[zb8,j_]at h;have:=zq8 xs 0 k hk h.2
 simpa [zd0,hp,zfy] using this
theorem zob(h:zb8 xs=true)(k:Nat)(hk:k<xs.length)(hp:¬k%2=0):16<=xs[k]/\xs[k]<=18:=by
 simp only[zb8,j_]at h;have:=zq8 xs 0 k hk h.2
 simpa [zd0,hp,zat] using this
theorem zud(h:zb8 xs=true):xs.length%2=1/\xs.length<=41:=by
 simp only[zb8,j_,t_]at h;exact h.1
theorem zqd(n:Int)(w:World):
  Calls prog 184 #[.int .i64 n] w λe w'=>e=.returned (.bool (zfy n))/\w=w':=by
 go_enter func184,ntmps184
 by_cases h1:0<=n
 ·by_cases h2:n<=3
  ·go_wp2
   go_ret;exact⟨φ (by simp[zfy,h1,h2]),rfl⟩
  ·go_wp2
   go_ret;exact⟨φ (by simp[zfy];omega),rfl⟩
 ·go_wp2
  go_ret;exact⟨φ (by simp[zfy];omega),rfl⟩
theorem zrr(lo hi:Nat)(v:Value)(xs:List Int)(w:World)(hx:SlI lo hi w v xs)(hm:xs.length<=1048576):
  Calls prog 142 #[v] w λe w'=>e=.returned (.bool (zb8 xs))/\w=w':=by
 obtain⟨a,cap,rfl,hcap,hcm,hc⟩:=hx.open;clear hx hcm hcap;by_cases h1:xs.length%2=1
 ·have h1':((xs.length:Int)%2 !=1)=false:=by simp;omega
  by_cases h2:xs.length<=41
  ·have H1:=H_ h1
   clear h1
   go_enter func142,ntmps142
   go_wp2
   go_loop [16] (λi=>∃ k:Nat,k<=xs.length/\i=.int .i64 k/\Q_ (zej k (xs.drop k)=zej 0 xs)) (λi=>xs.length-(intOf i).toNat)
   case atStart=>exact⟨0,by omega,rfl,H_ rfl⟩
   case round=>
    obtain⟨k,hk,rfl,HT⟩:=hrel;by_cases hlt:k<xs.length
    ·(obtain⟨b,off,rfl,_,_,_,hcell⟩:=hc k hlt);have HS:=H_ (zsc xs k hlt);clear hc;by_cases hp:k%2=0
     ·(have hp1:((k:Int)%2==0)=true:=by simp;omega);(have hp2:((k:Int)%2==1)=false:=by simp;omega);have HP:=H_ hp;clear hp;cases hv:zfy xs[k]
      ·go_wp2_with (go_at_call 184;refine(zqd _ _).mono ?_;rintro e w' ⟨rfl,rfl⟩)
       go_ret;exact⟨φ (by simp[zb8,<-HT.o,HS.o,zd0,HP.o,hv]),rfl⟩
      ·go_wp2_with (go_at_call 184;refine(zqd _ _).mono ?_;rintro e w' ⟨rfl,rfl⟩)
       go_round
       (case rel=>exact⟨k+1,by omega,by go_num,H_ (by rw[<-HT.o,HS.o];simp[zd0,HP.o,hv])⟩);case measure=>simp[intOf];omega
     ·(have hp1:((k:Int)%2==0)=false:=by simp;omega);(have hp2:((k:Int)%2==1)=true:=by simp;omega);have HP:=H_ hp;clear hp;cases hv:zat xs[k]
      ·go_wp2_with (go_at_call 176;refine(zb6 _ _).mono ?_;rintro e w' ⟨rfl,rfl⟩)
       go_ret;exact⟨φ (by simp[zb8,<-HT.o,HS.o,zd0,HP.o,hv]),rfl⟩
      ·go_wp2_with (go_at_call 176;refine(zb6 _ _).mono ?_;rintro e w' ⟨rfl,rfl⟩)
       go_round
       (case rel=>exact⟨k+1,by omega,by go_num,H_ (by rw[<-HT.o,HS.o];simp[zd0,HP.o,hv])⟩);case measure=>simp[intOf];omega
    ·go_wp2
     go_ret;exact⟨φ (by simp[zb8,<-HT.o,zqk xs k (by omega),H1.o,h2]),rfl⟩
  ·go_enter func142,ntmps142
   go_wp2;go_ret;exact⟨φ (by simp[zb8];omega),rfl⟩
 ·have h1':((xs.length:Int)%2 !=1)=true:=by simp;omega
  go_enter func142,ntmps142
  go_wp2;go_ret;exact⟨φ (by simp[zb8];omega),rfl⟩
theorem zvc(xs:List Int)(k:Nat)(h:k<xs.length)(hp:k%2=0):zd0 k xs[k]=inB xs[k] 0 3:=by
 simp[zd0,hp,zfy,inB]
theorem zw3(xs:List Int)(k:Nat)(h:k<xs.length)(hp:¬k%2=0):zd0 k xs[k]=inB xs[k] 16 18:=by
 simp[zd0,hp,zat,inB]
theorem zlk(lo hi:Nat)(v:Value)(xs:List Int)(w:World)(hx:SlI lo hi w v xs)(hm:xs.length<=1048576):
  Calls prog 116 #[v] w λe w'=>e=.returned (.bool (zb8 xs))/\w=w':=by
 obtain⟨a,cap,rfl,hcap,hcm,hc⟩:=hx.open;clear hx hcm hcap
 go_enter func116,ntmps116
 go_wp2
 go_loop [3] (λi=>∃ k:Nat,k<=xs.length/\i=.int .i64 k/\Q_ (zej k (xs.drop k)=zej 0 xs)) (λi=>xs.length-(intOf i).toNat)
 case atStart=>exact⟨0,by omega,rfl,H_ rfl⟩
 case round=>
  obtain⟨k,hk,rfl,HT⟩:=hrel;by_cases hlt:k<xs.length
  ·obtain⟨b,off,rfl,_,_,_,hcell⟩:=hc k hlt
   have HS:=H_ (zsc xs k hlt);clear hc;by_cases hp:k%2=0
   ·(have hp1:((k:Int)%2==0)=true:=by simp;omega);(have hp2:((k:Int)%2==1)=false:=by simp;omega);have HV:=H_ (zvc xs k hlt hp);clear hp;cases hv:inB xs[k] 0 3
    ·go_wp2_with (go_at_call 101;refine(za4 _ _ _ _).mono ?_;rintro e w' ⟨rfl,rfl⟩)
     go_ret;exact⟨φ (by simp[zb8,<-HT.o,HS.o,HV.o,hv]),rfl⟩
    ·go_wp2_with (go_at_call 101;refine(za4 _ _ _ _).mono ?_;rintro e w' ⟨rfl,rfl⟩)
     go_round
     (case rel=>exact⟨k+1,by omega,by go_num,H_ (by rw[<-HT.o,HS.o];simp[HV.o,hv])⟩);case measure=>simp[intOf];omega
   ·(have hp1:((k:Int)%2==0)=false:=by simp;omega);(have hp2:((k:Int)%2==1)=true:=by simp;omega);have HV:=H_ (zw3 xs k hlt hp);clear hp;cases hv:inB xs[k] 16 18
    ·go_wp2_with (go_at_call 101;refine(za4 _ _ _ _).mono ?_;rintro e w' ⟨rfl,rfl⟩)
     go_ret;exact⟨φ (by simp[zb8,<-HT.o,HS.o,HV.o,hv]),rfl⟩
    ·go_wp2_with (go_at_call 101;refine(za4 _ _ _ _).mono ?_;rintro e w' ⟨rfl,rfl⟩)
     go_round
     (case rel=>exact⟨k+1,by omega,by go_num,H_ (by rw[<-HT.o,HS.o];simp[HV.o,hv])⟩);case measure=>simp[intOf];omega
  ·have HE:=H_ (zqk xs k (by omega))
   by_cases h1:xs.length%2=1
   ·(have h1':((xs.length:Int)%2==1)=true:=by simp;omega);(have H1:=H_ h1;clear h1;by_cases h2:xs.length<=41)
    all_goals
     go_wp2;go_ret;exact⟨φ (by simp[zb8,<-HT.o,HE.o,H1.o];omega),rfl⟩
   ·(have h1':((xs.length:Int)%2==1)=false:=by simp;omega);go_wp2;go_ret;exact⟨φ (by simp[zb8];omega),rfl⟩
def zee(i:Nat)(x:Int):UInt8:=UInt8.ofNat (if i%2=0 then 48+x else 81+x).toNat
def zes:Nat->List Int->List UInt8
 | _,[]=>[]
 | i,x :: r=>zee i x :: zes (i+1) r
def zfh(xs:List Int):List UInt8:=if zb8 xs then zes 0 xs else []
theorem zws(ys:List Int)(x:Int):∀ i,zes i (ys++[x])=zes i ys++[zee (i+ys.length) x]:=by
 induction ys with
 | nil=>intro i;simp[zes]
 | cons y r ih=>intro i;simp only[aj_,zes,ih,I_];rw[show i+1+r.length=i+(r.length+1) by omega]
theorem zkh(xs:List Int)(k:Nat)(h:k<xs.length):zes 0 (xs.take (k+1))=zes 0 (xs.take k)++[zee k xs[k]]:=by
 rw[bz_,l_ h,Option.toList_some,zws,am_,U_,eb_ (by omega)]
theorem zoe(l m:List UInt8):(Value.string ({ data:=l.toArray }++{ data:=m.toArray }))=.string ⟨(l++m).toArray⟩:=by
 rw[bn_]
theorem z0m(w:World)(n:Int):Sem.run prog (convert 40 9 (.slice (q_ w 0) 1 1)) (w.alloc (.cells #[.int .u8 n] 5)) =
    .ok (.string ⟨[UInt8.ofNat n.toNat].toArray⟩) (w.alloc (.cells #[.int .u8 n] 5)):=by
  have h:=dk_ (P:=prog) (w:=w.alloc (.cells #[.int .u8 n] 5)) 40 5 underlying40 underlying5 w 0 1 1 [n] rfl
    (by intro i hi; obtain rfl : i = 0 := by omega
        rw[World.cell?,ba_];rfl) 9 underlying9
  exact h
theorem zx6(lo hi:Nat)(v:Value)(xs:List Int)(w:World)(hx:SlI lo hi w v xs)(hm:xs.length<=1048576)(hhi:hi<=w):
  c_ 60 #[v] w (.string ⟨(zfh xs).toArray⟩):=by
 have hx0:=hx;obtain⟨a,cap,rfl,hcap,hcm,hc⟩:=hx.open;clear hx hcm hcap hc;cases hv:zb8 xs
 ·have HX:=H_ hx0
  clear hx0
  go_enter func60,ntmps60
  go_wp2;refine wp_loop_once ?_;by_cases hl:0<xs.length
  all_goals
   go_wp2_with (go_at_call 116;refine(zlk _ _ _ xs _ HX.o hm).mono ?_;rintro e w' ⟨rfl,rfl⟩)
   go_ret;exact⟨zbw (a:=[]) (by simp[zfh,hv]),B_ _ _⟩
 ·go_enter func60,ntmps60
  go_wp2;go_loopw [3,4] (λs i wr=>∃ k:Nat,∃ l:List UInt8,k<=xs.length/\i=.int .i64 k/\s=.string ⟨l.toArray⟩/\l.length<=k/\Q_ (l=zes 0 (xs.take k))/\Below w w wr) (λ_ i _=>xs.length-(intOf i).toNat)
  case atStart=>exact⟨0,[],by omega,rfl,rfl,le_ _,H_ rfl,B_ _ _⟩
  case round=>
   obtain⟨k,l,hk,rfl,rfl,hll,HL,hb⟩:=hrel;have hx1:=hx0.below hb hhi;by_cases hlt:k<xs.length
   ·(obtain⟨b,off,rfl,_,_,hbs,hcell⟩:=hx1.get k hlt);(have HX:=H_ hx1;have hcv:=λn=>z0m wr n);have HB:=H_ (λo=>hb.alloc hb.size o);clear hx0 hx1 hb;by_cases hp:k%2=0
    ·(have hp1:((k:Int)%2==0)=true:=by simp;omega);(obtain⟨hr1,hr2⟩:=zrq hv k hlt hp;have HT:=H_ (show zee k xs[k]=UInt8.ofNat (48+xs[k]).toNat by simp[zee,hp]);clear hp;go_wp2_with (go_at_call 116;refine(zlk _ _ _ xs _ HX.o hm).mono ?_;rintro e w' ⟨rfl,rfl⟩));go_roundw
     (case rel=>exact⟨k+1,l++[UInt8.ofNat (48+xs[k]).toNat],by omega,by go_num,zoe _ _,by simp;omega,H_ (by rw[zkh xs k hlt,HL.o,HT.o]),HB.o _⟩);case measure=>simp[intOf];omega
    ·(have hp1:((k:Int)%2==0)=false:=by simp;omega);(obtain⟨hr1,hr2⟩:=zob hv k hlt hp;have HT:=H_ (show zee k xs[k]=UInt8.ofNat (97+xs[k]-16).toNat by simp[zee,hp];congr 2;omega);clear hp;go_wp2_with (go_at_call 116;refine(zlk _ _ _ xs _ HX.o hm).mono ?_;rintro e w' ⟨rfl,rfl⟩));go_roundw
     (case rel=>exact⟨k+1,l++[UInt8.ofNat (97+xs[k]-16).toNat],by omega,by go_num,zoe _ _,by simp;omega,H_ (by rw[zkh xs k hlt,HL.o,HT.o]),HB.o _⟩);case measure=>simp[intOf];omega
   ·(obtain rfl:k=xs.length:=by omega);have HX:=H_ hx1;clear hx0 hx1;go_wp2;go_ret;exact⟨zbw (by rw[HL.o,Y_];simp[zfh,hv]),hb⟩
end Go.Proofs.YtfnnhimopokpnaaGreatDoor
