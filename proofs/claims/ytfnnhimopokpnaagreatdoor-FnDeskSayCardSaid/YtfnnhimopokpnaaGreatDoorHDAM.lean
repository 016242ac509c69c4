/- Lemmas for this seat; no condition. -/
import Derived.Test.YtfnnhimopokpnaaGreatDoorHDAJ
import Derived.Test.YtfnnhimopokpnaaGreatDoorHDAK
import Derived.Test.YtfnnhimopokpnaaGreatDoorHDAL
namespace Go.Proofs.YtfnnhimopokpnaaGreatDoor
open Go.RowKit Proofs.Tryz
set_option maxRecDepth 100000
set_option maxHeartbeats 0
set_option linter.all false
variable {D:Dsk} {l:List UInt8} {R A B n lo hi lo' hi' cap:Nat} {w w':World} {v:Value} {xss:List (List Int)} {ss:List Value}
def zgq:List UInt8:=[110,111,110,101]
def zdp:List UInt8:=[121,101,115]
def noT:List UInt8:=[110,111]
def zjq:List UInt8:=[111,112,101,110]
def zjz:List UInt8:=[119,104,97,116]
def eqT(i:Int):List UInt8:=if i=1 then zdp else if i=0 then noT else zjq
def zcr:List Mv->List UInt8
 | []=>zgq
 | m :: r=>r.foldl (λs x=>s++44 :: Β x) (Β m)
def zhf:Option (List Int)->List UInt8
 | some t=>zew t
 | none=>zgq
noncomputable def zae(D:Dsk)(l:List UInt8):List UInt8:=
 if l=[110,111,119] then zbr D.now
 else if l=[102,105,114,115,116] then zbr D.first
 else if l=[103,111,97,108] then zbr D.goal
 else if l=[109,111,118,101,115] then Ε D.made.length
 else if l=[100,111,110,101] then (if eqL D.now D.goal then zdp else noT)
 else if l=[101,113,117,97,108] then eqT (equalV D.now D.goal)
 else if l=[101,110,100,115] then Υ (endsK (Τ D.now))
 else if l=[116,114,97,99,101] then zhf (differV D.now D.goal)
 else if l=[112,114,111,111,102] then zcr D.made
 else zjz
structure NoQ(l:List UInt8):Prop where
 q1:l≠[110,111,119]
 q2:l≠[102,105,114,115,116]
 q3:l≠[103,111,97,108]
 q4:l≠[109,111,118,101,115]
 q5:l≠[100,111,110,101]
 q6:l≠[101,113,117,97,108]
 q7:l≠[101,110,100,115]
 q8:l≠[116,114,97,99,101]
 q9:l≠[112,114,111,111,102]
theorem zqv(h:NoQ l):zae D l=zjz:=by
 unfold zae;rw[m_ h.q1,m_ h.q2,m_ h.q3,m_ h.q4,m_ h.q5,m_ h.q6,m_ h.q7,m_ h.q8,m_ h.q9]
theorem zot(l:List UInt8):l=[110,111,119]\/l=[102,105,114,115,116]\/l=[103,111,97,108]\/l=[109,111,118,101,115]\/l=[100,111,110,101]\/l=[101,113,117,97,108]\/l=[101,110,100,115]\/l=[116,114,97,99,101]\/l=[112,114,111,111,102]\/NoQ l:=by
 by_cases h1:l=[110,111,119]
 ·exact .inl h1
 by_cases h2:l=[102,105,114,115,116]
 ·exact .inr (.inl h2)
 by_cases h3:l=[103,111,97,108]
 ·exact .inr (.inr (.inl h3))
 by_cases h4:l=[109,111,118,101,115]
 ·exact .inr (.inr (.inr (.inl h4)))
 by_cases h5:l=[100,111,110,101]
 ·exact .inr (.inr (.inr (.inr (.inl h5))))
 by_cases h6:l=[101,113,117,97,108]
 ·exact .inr (.inr (.inr (.inr (.inr (.inl h6)))))
 by_cases h7:l=[101,110,100,115]
 ·exact .inr (.inr (.inr (.inr (.inr (.inr (.inl h7))))))
 by_cases h8:l=[116,114,97,99,101]
 ·exact .inr (.inr (.inr (.inr (.inr (.inr (.inr (.inl h8)))))))
 by_cases h9:l=[112,114,111,111,102]
 ·exact .inr (.inr (.inr (.inr (.inr (.inr (.inr (.inr (.inl h9))))))))
 exact .inr (.inr (.inr (.inr (.inr (.inr (.inr (.inr (.inr ⟨h1,h2,h3,h4,h5,h6,h7,h8,h9⟩))))))))
def okT(b:Bool):List UInt8:=if b then [111,107] else [110,111]
noncomputable def zfv(D:Dsk)(l:List UInt8):Dsk × List UInt8:=
 match zbb l with
 | some A=>((Χ D A).1,okT (Χ D A).2)
 | none=>(D,zae D l)
noncomputable def zac(D:Dsk)(l:List UInt8):Dsk × List UInt8:=if φ D then zfv D l else (Dsk.none,[])
theorem zoe(l:List UInt8)(h:φ D=true):φ (zac D l).1=true:=by
 unfold zac;rw[h];simp only[d6_];unfold zfv;cases zbb l with
 | none=>exact h
 | some A=>exact zrn A h
noncomputable def zck(p:Dsk × List (List UInt8))(l:List UInt8):Dsk × List (List UInt8):=((zac p.1 l).1,p.2++[(zac p.1 l).2])
noncomputable def zad(D:Dsk)(ls:List (List UInt8)):Dsk × List (List UInt8):=ls.foldl zck (D,[])
noncomputable def zbe(D:Dsk)(ls:List (List UInt8)):Dsk × List (List UInt8):=if φ D=true/\ls.length<=40 then zad D ls else (Dsk.none,[])
theorem zq6(D:Dsk)(ls:List (List UInt8))(k:Nat)(h:k<ls.length):zad D (ls.take (k+1))=zck (zad D (ls.take k)) ls[k]:=by
 rw[F_ h,zad,d3_];rfl
theorem zpf(p:Dsk × List (List UInt8)):∀ ls:List (List UInt8),(ls.foldl zck p).2.length=p.2.length+ls.length
 | []=>rfl
 | l :: r=>by
  rw[List.foldl_cons,zpf,zck,n_,I_,I_,an_];omega
theorem zjl(D:Dsk)(ls:List (List UInt8)):(zad D ls).2.length=ls.length:=by rw[zad,zpf];simp
theorem zox:∀ (ls:List (List UInt8)) (p:Dsk × List (List UInt8)),φ p.1=true->φ (ls.foldl zck p).1=true
 | [],_,h=>h
 | l :: r,p,h=>zox r (zck p l) (zoe l h)
theorem zid(h:φ D=true)(ls:List (List UInt8)):φ (zad D ls).1=true:=zox ls (D,[]) h
theorem zt7(D:Dsk)(a:List (List UInt8)):∀ (ls b:List (List UInt8)),ls.foldl zck (D,a++b)=((ls.foldl zck (D,b)).1,a++(ls.foldl zck (D,b)).2):=by
 intro ls
 induction ls generalizing D with
 | nil=>intro b;rfl
 | cons l r ih=>
  intro b;rw[List.foldl_cons,List.foldl_cons]
  show r.foldl zck ((zac D l).1,a++b++[(zac D l).2])=_
  rw[Z_,ih];rfl
theorem zv7(D:Dsk)(a b:List (List UInt8)):zad D (a++b)=((zad (zad D a).1 b).1,(zad D a).2++(zad (zad D a).1 b).2):=by
 rw[zad,d3_];have h:=zt7 (a.foldl zck (D,[])).1 (a.foldl zck (D,[])).2 b [];rw[cx_]at h;exact h
theorem zq0(D:Dsk)(ls:List (List UInt8)):(zbe D ls).1.size<=180:=by
 unfold zbe
 split
 ·rename_i h
  exact zkl (zid h.1 ls)
 ·simp[Dsk.none,Dsk.size]
theorem z04(D:Dsk)(ls:List (List UInt8)):(zbe D ls).2.length<=ls.length:=by
 unfold zbe
 split
 ·rw[zjl];exact le_ _
 ·simp
def zci(l:List UInt8)(R A B:Nat):Prop:=∀ m:Mv,za5 m=true->(m.which<R\/(m.which=R/\(m.at_<A\/(m.at_=A/\(if m.back then 1 else 0)<B))))->Β m≠l
theorem zci.zero(l:List UInt8):zci l 0 0 0:=by
 intro m h hlt;simp[za5]at h;omega
theorem zci.step(h:zci l R A B)(hne:Β ⟨R,(B:Int)==1,A⟩≠l)(hB:B<2):zci l R A (B+1):=by
 intro m hm hlt;by_cases h1:m.which<R\/(m.which=R/\(m.at_<A\/(m.at_=A/\(if m.back then 1 else 0)<B)))
 ·exact h m hm h1
 ·have e:m=⟨R,(B:Int)==1,A⟩:=by
   obtain⟨p,b,q⟩:=m;simp only at h1 hlt;have⟨e1,e2,e3⟩:p=R/\q=A/\(if b=true then 1 else 0)=B:=by omega
   subst e1 e2
   congr 1
   subst e3;cases b<;>rfl
  rw[e];exact hne
theorem zci.next(h:zci l R A 2):zci l R (A+1) 0:=by
 intro m hm hlt;refine h m hm ?_;have:(if m.back=true then 1 else 0)<2:=by split<;>omega
 omega
theorem zci.next2(h:zci l R 40 0):zci l (R+1) 0 0:=by
 intro m hm hlt;refine h m hm ?_;simp[za5]at hm;omega
theorem zci.all(h:zci l 21 0 0):zbg l=none:=
 zf3 λm hm=>h m hm (by simp[za5] at hm;omega)
theorem zu1(h:6<l.length):zbg l=none:=
 zf3 λm hm e=>by have:=ziq m;rw[e] at this;omega
theorem zmf(l:List UInt8)(s:ByteArray)(hs:s=⟨l.toArray⟩)(w:World)(hl:l.length<=2097152):
  c_ 98 #[.string s] w (zby (zbg l)):=by
 subst hs;have hb0:Q_ (∀ o,Below w w (w.alloc o)):=H_ λo=>(B_ _ _).alloc (le_ _) _
 by_cases h6:6<l.length
 ·go_enter func98,ntmps98
  go_wp2;rw[zu1 h6];refine d_ (v:=zby none) (by simp[results,results98,go_sem,zby,zai]) rfl ⟨rfl,hb0.o _⟩
 ·have K0:Q_ (∀ o,Blk w o (w.alloc o)):=H_ λo=>κ w o
  have h6':l.length<=6:=by omega
  clear h6
  go_enter func98,ntmps98
  go_wp2;go_loopw [4] (λi wr=>∃ R:Nat,R<=21/\i=.int .i64 R/\Q_ (zci l R 0 0)/\Q_ (Blk w (.cells #[(0:Int),.bool false,(0:Int)] 67) wr)/\Q_ (Below w w wr)) (λi _=>21-(intOf i).toNat)
  case atStart=>exact⟨0,by omega,rfl,H_ (zci.zero l),H_ (K0.o _),H_ (hb0.o _)⟩
  case round=>
   obtain⟨R,hR,rfl,HN,K,HB⟩:=hrel;by_cases hltR:R<21
   ·go_wp2
    simp only[show decide ((R:Int)<21)=true from b6_ (by omega)];go_loopw [5] (λi wr=>∃ A:Nat,A<=40/\i=.int .i64 A/\Q_ (zci l R A 0)/\Q_ (Blk w (.cells #[(0:Int),.bool false,(0:Int)] 67) wr)/\Q_ (Below w w wr)) (λi _=>40-(intOf i).toNat)
    case atStart=>exact⟨0,by omega,rfl,HN,K,HB⟩
    case round=>
     clear HN K HB;obtain⟨A,hA,rfl,HN,K,HB⟩:=hrel;by_cases hltA:A<40
     ·go_wp2
      simp only[show decide ((A:Int)<40)=true from b6_ (by omega)];go_loopw [6] (λi wr=>∃ B:Nat,B<=2/\i=.int .i64 B/\Q_ (zci l R A B)/\Q_ (Blk w (.cells #[(0:Int),.bool false,(0:Int)] 67) wr)/\Q_ (Below w w wr)) (λi _=>2-(intOf i).toNat)
      case atStart=>exact⟨0,by omega,rfl,HN,K,HB⟩
      case round=>
       clear HN K HB;obtain⟨B,hB,rfl,HN,K,HB⟩:=hrel;by_cases hltB:B<2
       ·go_wp2_with fail
        (have⟨bk,hbk⟩:=ex_ ((B:Int)==1);rw[<-hbk];have⟨w4,hw4⟩:=xa_ wr #[.int .i64 R,.bool bk,.int .i64 A] 67;rw[<-hw4];have hb:Below wr wr w4:=by rw[hw4];exact(B_ _ _).alloc (le_ _) _);(have K4:Q_ (Blk wr (.cells #[.int .i64 R,.bool bk,.int .i64 A] 67) w4):=by rw[hw4];exact H_ (κ _ _));replace K:=K.kb hb;have hsz3:=HB.o.size;replace HB:=HB.ts hb;have HBK:=H_ hbk;clear hb hw4 hbk;refine(zka ⟨R,bk,A⟩ _).mono ?_;rintro e w5 ⟨rfl,hb⟩;replace K:=K.kb hb;replace K4:=K4.kb hb;replace HB:=HB.ts hb;clear hb;have⟨d0,d1,d2⟩:=K4.o.c3;cases hq:(Β ⟨R,bk,A⟩==l)
        ·go_wp2
         go_roundw
         (case rel=>exact⟨B+1,by omega,by go_num,H_ (HN.o.step (by rw[<-HBK.o];simpa using hq) hltB),K,HB⟩);case measure=>simp[intOf];omega
        ·(have HR:=H_ ((zle l ⟨R,bk,A⟩).2 ⟨by simp[za5];omega,by simpa using hq⟩));have⟨wz,hwz⟩:=x3_ w5 w R (.bool bk) A;have KZ:=K.o.set3 R (.bool bk) A;have HZ:=H_ (zg7 HB.o (le_ _) R (.bool bk) A);rw[<-hwz]at KZ HZ;obtain⟨q0,q1,q2⟩:=KZ.c3;clear KZ;have⟨c0,c1,c2⟩:=K.o.c3;have⟨f0,f1,f2⟩:=K.o.f3;go_wp2;simp only[<-hwz];clear hwz;rw[HR.o];refine d_ (v:=zby (some ⟨R,bk,A⟩)) (by simp[results,results98,go_sem,q0,q1,q2,zby,zai]) rfl ⟨rfl,HZ.o⟩
       ·(obtain rfl:B=2:=by omega);go_wp2;go_roundw
        (case rel=>exact⟨A+1,by omega,by go_num,H_ HN.o.next,K,HB⟩);case measure=>simp[intOf];omega
     ·(obtain rfl:A=40:=by omega);go_wp2;go_roundw
      (case rel=>exact⟨R+1,by omega,by go_num,H_ HN.o.next2,K,HB⟩);case measure=>simp[intOf];omega
   ·(obtain rfl:R=21:=by omega);have⟨wz,hwz⟩:=x3_ wr w (0:Int) (.bool false) (0:Int);have KZ:=K.o.set3 (0:Int) (.bool false) (0:Int);have HZ:=H_ (zg7 HB.o (le_ _) (0:Int) (.bool false) (0:Int));rw[<-hwz]at KZ HZ;obtain⟨q0,q1,q2⟩:=KZ.c3;clear KZ;have⟨c0,c1,c2⟩:=K.o.c3;have⟨f0,f1,f2⟩:=K.o.f3;go_wp2;simp only[<-hwz];clear hwz;rw[zci.all HN.o];refine d_ (v:=zby none) (by simp[results,results98,go_sem,q0,q1,q2,zby,zai]) rfl ⟨rfl,HZ.o⟩
theorem zvi(l p:List UInt8)(s sep:ByteArray)(hs:s=⟨l.toArray⟩)(hp:sep=⟨p.toArray⟩)(w:World):
  Calls prog 84 #[.string s,.string sep] w λe w'=>e=.returned (.tuple #[.string ⟨(Lib.trimPrefix l p).toArray⟩,.bool (Lib.hasPrefix l p)])/\w=w':=by
 subst hs hp;exact(Tryz.strings_CutPrefix ⟨l.toArray⟩ ⟨p.toArray⟩ w).mono λe w' h=>⟨h.1,h.2.symm⟩
theorem zrv(l:List UInt8)(s:ByteArray)(hs:s=⟨l.toArray⟩)(w:World)(hE:Env w)(hl:l.length<=2097152):
  c_ 48 #[.string s] w (zco (zbb l)):=by
 subst hs;have⟨w0,hw0⟩:=xa_ w #[(0:Int),(0:Int),.bool false,(0:Int),(0:Int)] 69;have HB:Q_ (Below w w w0):=by rw[hw0];exact H_ ((B_ _ _).alloc (le_ _) _)
 have K:Q_ (Blk w (.cells #[(0:Int),(0:Int),.bool false,(0:Int),(0:Int)] 69) w0):=by rw[hw0];exact H_ (κ w _)
 have HE:=H_ (hE.below HB.o);clear hE
 go_enter func48,ntmps48
 go_wp2_with fail
 simp only[<-hw0];clear hw0;refine(z07 l _ rfl _ HE.o hl).mono ?_;rintro e w1 ⟨rfl,hb⟩;replace HE:=H_ (HE.o.below hb);replace K:=K.kb hb;replace HB:=HB.ts hb;clear hb;cases hr:zbg l with
 | some m=>
  rw[zwf];have HR:=H_ (zpp hr);clear hr HE;have⟨w2,hw2⟩:=xa_ w1 #[.int .i64 m.which,.bool m.back,.int .i64 m.at_] 67;have hb:Below w1 w1 w2:=by rw[hw2];exact(B_ _ _).alloc (le_ _) _
  replace K:Q_ (Blk w (.cells #[(0:Int),(0:Int),.bool false,(0:Int),(0:Int)] 69) (w1.alloc (.cells #[.int .i64 m.which,.bool m.back,.int .i64 m.at_] 67))):=by rw[<-hw2];exact K.kb hb
  replace HB:Q_ (Below w w (w1.alloc (.cells #[.int .i64 m.which,.bool m.back,.int .i64 m.at_] 67))):=by rw[<-hw2];exact HB.ts hb
  clear hb hw2;have⟨wz,hwz⟩:=x5_ (w1.alloc (.cells #[.int .i64 m.which,.bool m.back,.int .i64 m.at_] 67)) w (0:Int) (.int .i64 m.which) (.bool m.back) (.int .i64 m.at_) (0:Int);have KZ:=K.o.set5 (0:Int) (.int .i64 m.which) (.bool m.back) (.int .i64 m.at_) (0:Int);have HZ:=H_ (zeu HB.o (le_ _) (0:Int) (.int .i64 m.which) (.bool m.back) (.int .i64 m.at_) (0:Int));rw[<-hwz]at KZ HZ;obtain⟨q0,q1,q2,q3,q4⟩:=KZ.c5;clear KZ;have c0:=K.o.cell 0;have f0:=K.o.free 0;have c1:=K.o.cell 1;have f1:=K.o.free 1;have c2:=K.o.cell 2;have f2:=K.o.free 2;have c3:=K.o.cell 3;have f3:=K.o.free 3;have c4:=K.o.cell 4;have f4:=K.o.free 4;go_wp2;simp only[<-hwz];clear hwz;rw[HR.o];refine d_ (v:=zco (some ⟨0,m,0⟩)) (by simp[results,results48,go_sem,q0,q1,q2,q3,q4,zco]) rfl ⟨rfl,HZ.o⟩
 | none=>
  rw[zt9];have HR1:=H_ hr;clear hr;cases hsm:l==zd2 with
  | true=>
   have HR:=H_ (zoj (l:=l) (by simpa using hsm));have hsm':(l==[115,105,109,112,108,101])=true:=hsm;clear hsm HE;have hb:Below w1 w1 (w1.alloc (.cells #[(0:Int),.bool false,(0:Int)] 67)):=(B_ _ _).alloc (le_ _) _;replace K:=K.kb hb;replace HB:=HB.ts hb;clear hb;have⟨wz,hwz⟩:=x5_ (w1.alloc (.cells #[(0:Int),.bool false,(0:Int)] 67)) w (2:Int) (0:Int) (.bool false) (0:Int) (0:Int);have KZ:=K.o.set5 (2:Int) (0:Int) (.bool false) (0:Int) (0:Int);have HZ:=H_ (zeu HB.o (le_ _) (2:Int) (0:Int) (.bool false) (0:Int) (0:Int));rw[<-hwz]at KZ HZ;obtain⟨q0,q1,q2,q3,q4⟩:=KZ.c5;clear KZ;have c0:=K.o.cell 0;have f0:=K.o.free 0;have c1:=K.o.cell 1;have f1:=K.o.free 1;have c2:=K.o.cell 2;have f2:=K.o.free 2;have c3:=K.o.cell 3;have f3:=K.o.free 3;have c4:=K.o.cell 4;have f4:=K.o.free 4;go_wp2;simp only[<-hwz];clear hwz;rw[HR.o];refine d_ (v:=zco (some ⟨2,zai,0⟩)) (by simp[results,results48,go_sem,q0,q1,q2,q3,q4,zco,zai]) rfl ⟨rfl,HZ.o⟩
  | false=>
   have HSM:=H_ hsm;have hsm':(l==[115,105,109,112,108,101])=false:=hsm;clear hsm;go_wp2_with fail
   have⟨w2,hw2⟩:=xa_ w1 #[(0:Int),.bool false,(0:Int)] 67;rw[<-hw2];have hb:Below w1 w1 w2:=by rw[hw2];exact(B_ _ _).alloc (le_ _) _
   replace HE:=H_ (HE.o.below hb);replace K:=K.kb hb;replace HB:=HB.ts hb;clear hb hw2;refine(zvi l zbh _ _ rfl rfl _).mono ?_;rintro e w' ⟨rfl,rfl⟩;cases hp:Lib.hasPrefix l zbh with
   | false=>
    have HR:=H_ (zj6 HR1.o HSM.o (zzk hp));clear hp;have⟨wz,hwz⟩:=x5_ w2 w (0:Int) (0:Int) (.bool false) (0:Int) (0:Int);have KZ:=K.o.set5 (0:Int) (0:Int) (.bool false) (0:Int) (0:Int);have HZ:=H_ (zeu HB.o (le_ _) (0:Int) (0:Int) (.bool false) (0:Int) (0:Int));rw[<-hwz]at KZ HZ;obtain⟨q0,q1,q2,q3,q4⟩:=KZ.c5;clear KZ;have c0:=K.o.cell 0;have f0:=K.o.free 0;have c1:=K.o.cell 1;have f1:=K.o.free 1;have c2:=K.o.cell 2;have f2:=K.o.free 2;have c3:=K.o.cell 3;have f3:=K.o.free 3;have c4:=K.o.cell 4;have f4:=K.o.free 4;go_wp2;simp only[<-hwz];clear hwz;rw[HR.o];refine d_ (v:=zco none) (by simp[results,results48,go_sem,q0,q1,q2,q3,q4,zhd]) rfl ⟨rfl,HZ.o⟩
   | true=>
    (have HNE:Q_ (l≠[]):=H_ (by intro h;rw[h] at hp;cases hp);have hpl:(Lib.trimPrefix l zbh).length<=l.length:=by unfold Lib.trimPrefix;rw[x_ hp];simp);have⟨p,hp1⟩:=ex_ (Lib.trimPrefix l zbh);rw[<-hp1]at hpl ⊢;have HP:=H_ hp1;clear hp1 hp;cases ha:zcw p with
    | none=>
     (have HR:=H_ (zj6 HR1.o HSM.o (zz0 (by rw[<-HP.o];exact ha)));go_wp2_with fail);refine(znb p _ rfl _ HE.o (by omega) ha).mono ?_;rintro e w3 ⟨n,t,q,rfl,hb⟩;replace K:=K.kb hb;replace HB:=HB.ts hb;clear hb ha HE;have hb:Below w3 w3 (w3.alloc (.cells #[(1:Int),(0:Int),.bool false,(0:Int),.int .i64 n] 69)):=(B_ _ _).alloc (le_ _) _;replace K:=K.kb hb;replace HB:=HB.ts hb;clear hb;have⟨wz,hwz⟩:=x5_ (w3.alloc (.cells #[(1:Int),(0:Int),.bool false,(0:Int),.int .i64 n] 69)) w (0:Int) (0:Int) (.bool false) (0:Int) (0:Int);have KZ:=K.o.set5 (0:Int) (0:Int) (.bool false) (0:Int) (0:Int);have HZ:=H_ (zeu HB.o (le_ _) (0:Int) (0:Int) (.bool false) (0:Int) (0:Int));rw[<-hwz]at KZ HZ;obtain⟨q0,q1,q2,q3,q4⟩:=KZ.c5;clear KZ;have c0:=K.o.cell 0;have f0:=K.o.free 0;have c1:=K.o.cell 1;have f1:=K.o.free 1;have c2:=K.o.cell 2;have f2:=K.o.free 2;have c3:=K.o.cell 3;have f3:=K.o.free 3;have c4:=K.o.cell 4;have f4:=K.o.free 4;go_wp2;simp only[<-hwz];clear hwz;rw[HR.o];refine d_ (v:=zco none) (by simp[results,results48,go_sem,q0,q1,q2,q3,q4,zhd]) rfl ⟨rfl,HZ.o⟩
    | some n=>
     go_wp2_with fail
     refine(znk p _ rfl n _ (by omega) ha).mono ?_;rintro e w3 ⟨rfl,hb⟩;have HA:=H_ ha;replace K:=K.kb hb;replace HB:=HB.ts hb;clear hb ha HE;go_wp2_with fail
     (have⟨w4,hw4⟩:=xa_ w3 #[(1:Int),(0:Int),.bool false,(0:Int),.int .i64 n] 69;rw[<-hw4];have hb:Below w3 w3 w4:=by rw[hw4];exact(B_ _ _).alloc (le_ _) _);(have K4:Q_ (Blk w3 (.cells #[(1:Int),(0:Int),.bool false,(0:Int),.int .i64 n] 69) w4):=by rw[hw4];exact H_ (κ _ _));replace K:=K.kb hb;replace HB:=HB.ts hb;clear hb hw4;refine(zum ⟨1,zai,n⟩ _).mono ?_;rintro e w5 ⟨rfl,hb⟩;replace K4:=K4.kb hb;replace K:=K.kb hb;replace HB:=HB.ts hb;clear hb;have⟨d0,d1,d2,d3,d4⟩:=K4.o.c5;cases hq:(zak ⟨1,zai,n⟩==l)
     ·(have HR:=H_ (zj6 HR1.o HSM.o (z1n (n:=n) (by rw[<-HP.o];exact HA.o) (by simpa using hq))));have⟨wz,hwz⟩:=x5_ w5 w (0:Int) (0:Int) (.bool false) (0:Int) (0:Int);have KZ:=K.o.set5 (0:Int) (0:Int) (.bool false) (0:Int) (0:Int);have HZ:=H_ (zeu HB.o (le_ _) (0:Int) (0:Int) (.bool false) (0:Int) (0:Int));rw[<-hwz]at KZ HZ;obtain⟨q0,q1,q2,q3,q4⟩:=KZ.c5;clear KZ;have c0:=K.o.cell 0;have f0:=K.o.free 0;have c1:=K.o.cell 1;have f1:=K.o.free 1;have c2:=K.o.cell 2;have f2:=K.o.free 2;have c3:=K.o.cell 3;have f3:=K.o.free 3;have c4:=K.o.cell 4;have f4:=K.o.free 4;go_wp2;simp only[<-hwz];clear hwz;rw[HR.o];refine d_ (v:=zco none) (by simp[results,results48,go_sem,q0,q1,q2,q3,q4,zhd]) rfl ⟨rfl,HZ.o⟩
     ·have HR:Q_ (zbb l=some ⟨1,zai,n⟩):=by
       obtain⟨g1,g2,g3⟩:=zqo (n:=n) (l:=l) (by simpa using hq) HNE.o;have:=zpk g3;rw[show ((n.toNat:Nat):Int)=n by omega]at this;exact H_ this
      have⟨wz,hwz⟩:=x5_ w5 w (1:Int) (0:Int) (.bool false) (0:Int) n;have KZ:=K.o.set5 (1:Int) (0:Int) (.bool false) (0:Int) n;have HZ:=H_ (zeu HB.o (le_ _) (1:Int) (0:Int) (.bool false) (0:Int) n);rw[<-hwz]at KZ HZ;obtain⟨q0,q1,q2,q3,q4⟩:=KZ.c5;clear KZ;have c0:=K.o.cell 0;have f0:=K.o.free 0;have c1:=K.o.cell 1;have f1:=K.o.free 1;have c2:=K.o.cell 2;have f2:=K.o.free 2;have c3:=K.o.cell 3;have f3:=K.o.free 3;have c4:=K.o.cell 4;have f4:=K.o.free 4;go_wp2;simp only[<-hwz];clear hwz;rw[HR.o];refine d_ (v:=zco (some ⟨1,zai,n⟩)) (by simp[results,results48,go_sem,q0,q1,q2,q3,q4,zco,zai]) rfl ⟨rfl,HZ.o⟩
def zhz(l:List UInt8)(n:Nat):Prop:=∀ k,k<n->k<100->zbh++Ε k≠l
theorem zhz.step(h:zhz l n)(hne:zak ⟨1,zai,n⟩≠l)(hn:n<100):zhz l (n+1):=by
 intro k hk h1;by_cases hlt:k<n
 ·exact h k hlt h1
 ·obtain rfl:k=n:=by omega
  rw[zmk,x_ (by omega)]at hne;exact hne
theorem zhz.all(h:zhz l 100):zdf l=none:=zix λk hk=>h k hk hk
theorem zwp(h:l.length<=4\/l.head?≠some 98):zdf l=none:=zix λn hn e=>by
 subst e;rcases h with h|h
 ·simp[zbh]at h
 ·exact h rfl
theorem zp2(h2:(l==zd2)=false)(h3:zdf l=none):zbb l=(zbg l).map λm=>⟨0,m,0⟩:=by
 cases h:zbg l with
 | some m=>rw[zpp h];rfl
 | none=>rw[zj6 h h2 h3];rfl
theorem eq98(c:UInt8):((c.toNat:Int)==98)=(c==98):=by
 rw[cm_];simp only[bu_]
 constructor
 ·intro h;apply cw_.1;simpa using (by omega:c.toNat=98)
 ·intro h;subst h;rfl
theorem zmp(o:Option Mv):∃ m ok,m=o.getD zai/\ok=o.isSome/\zby o=.tuple #[.agg #[.int .i64 m.which,.bool m.back,.int .i64 m.at_],.bool ok]/\zco (o.map λm=>⟨0,m,0⟩)=.tuple #[.agg #[(0:Int),.int .i64 m.which,.bool m.back,.int .i64 m.at_,(0:Int)],.bool ok]:=
 ⟨_,_,rfl,rfl,rfl,by cases o<;>rfl⟩
theorem zl5(l:List UInt8)(s:ByteArray)(hs:s=⟨l.toArray⟩)(w:World)(hl:l.length<=2097152):
    c_ 51 #[.string s] w (zco (zbb l)):=by
  subst hs;have⟨w0,hw0⟩:=xa_ w #[(0:Int),(0:Int),.bool false,(0:Int),(0:Int)] 69;have HB:Q_ (Below w w w0):=by rw[hw0];exact H_ ((B_ _ _).alloc (le_ _) _)
  have K:Q_ (Blk w (.cells #[(0:Int),(0:Int),.bool false,(0:Int),(0:Int)] 69) w0):=by rw[hw0];exact H_ (κ w _)
  cases hsm:l==zd2 with
  | true=>
    (have HR:=H_ (zoj (l:=l) (by simpa using hsm));have hsm':(l==[115,105,109,112,108,101])=true:=hsm;clear hsm);go_enter func51,ntmps51
    go_wp2;rw[HR.o];refine d_ (v:=zco (some ⟨2,zai,0⟩)) (by simp[results,results51,go_sem,zco,zai]) rfl ⟨rfl,(B_ _ _).alloc (le_ _) _⟩
  | false=>
    have hsm':(l==[115,105,109,112,108,101])=false:=hsm;have HSM:=H_ hsm;clear hsm;by_cases hgood:4<l.length/\l.head?=some 98
    · obtain⟨h4,h98⟩:=hgood
      obtain⟨r,rfl⟩:∃ r,l=98 :: r:=by
        cases l with
        | nil=>simp at h98
        | cons c r=>simp at h98;exact⟨r,by rw[h98]⟩
      (have hr4:4<=r.length:=by simp at h4;omega);clear h98 h4
      go_enter func51,ntmps51
      go_wp2_with fail
      simp only[<-hw0];clear hw0;go_loopw [4] (λi wr=>∃ n:Nat,n<=100/\i=.int .i64 n/\Q_ (zhz (98 :: r) n)/\Q_ (Blk w (.cells #[(0:Int),(0:Int),.bool false,(0:Int),(0:Int)] 69) wr)/\Q_ (Below w w wr)) (λi _=>100-(intOf i).toNat)
      case atStart=>exact⟨0,by omega,rfl,H_ (by intro k hk;omega),K,HB⟩
      case round=>
        clear HB K;obtain⟨n,hn,rfl,HN,K,HB⟩:=hrel;by_cases hlt:n<100
        · go_wp2_with fail
          refine(zpn ⟨1,zai,n⟩ _).mono ?_;rintro e w5 ⟨rfl,hb⟩;replace K:=K.kb hb;replace HB:=HB.ts hb;clear hb;cases hq:(zak ⟨1,zai,n⟩==98 :: r)
          · go_wp2
            go_roundw
            (case rel=>exact⟨n+1,by omega,by go_num,H_ (HN.o.step (by simpa using hq) hlt),K,HB⟩);case measure=>simp[intOf];omega
          · have HR:Q_ (zbb (98 :: r)=some ⟨1,zai,n⟩):=by
              obtain⟨g1,g2,g3⟩:=zqo (n:=n) (l:=98 :: r) (by simpa using hq) (by simp);exact H_ (zpk g3)
            have⟨wz,hwz⟩:=x5_ w5 w (1:Int) (0:Int) (.bool false) (0:Int) n;have KZ:=K.o.set5 (1:Int) (0:Int) (.bool false) (0:Int) n;have HZ:=H_ (zeu HB.o (le_ _) (1:Int) (0:Int) (.bool false) (0:Int) n);rw[<-hwz]at KZ HZ;obtain⟨q0,q1,q2,q3,q4⟩:=KZ.c5;clear KZ;have c0:=K.o.cell 0;have f0:=K.o.free 0;have c1:=K.o.cell 1;have f1:=K.o.free 1;have c2:=K.o.cell 2;have f2:=K.o.free 2;have c3:=K.o.cell 3;have f3:=K.o.free 3;have c4:=K.o.cell 4;have f4:=K.o.free 4;go_wp2;simp only[<-hwz];clear hwz;rw[HR.o];refine d_ (v:=zco (some ⟨1,zai,n⟩)) (by simp[results,results51,go_sem,q0,q1,q2,q3,q4,zco,zai]) rfl ⟨rfl,HZ.o⟩
        · obtain rfl:n=100:=by omega
          (have HR:=H_ (zp2 HSM.o HN.o.all);go_wp2_with fail);obtain⟨m,ok,hm,hok,hq1,hq2⟩:=zmp (zbg (98 :: r));have HQ1:=H_ hq1;have HQ2:=H_ hq2;clear hm hok hq1 hq2;refine(zmf (98 :: r) _ rfl _ hl).mono ?_;rintro e w6 ⟨rfl,hb⟩;rw[HQ1.o];replace K:=K.kb hb;replace HB:=HB.ts hb;clear hb;have hb:Below w6 w6 (w6.alloc (.cells #[.int .i64 m.which,.bool m.back,.int .i64 m.at_] 67)):=(B_ _ _).alloc (le_ _) _;replace K:=K.kb hb;replace HB:=HB.ts hb;clear hb;have⟨wz,hwz⟩:=x5_ (w6.alloc (.cells #[.int .i64 m.which,.bool m.back,.int .i64 m.at_] 67)) w (0:Int) (.int .i64 m.which) (.bool m.back) (.int .i64 m.at_) (0:Int);have KZ:=K.o.set5 (0:Int) (.int .i64 m.which) (.bool m.back) (.int .i64 m.at_) (0:Int);have HZ:=H_ (zeu HB.o (le_ _) (0:Int) (.int .i64 m.which) (.bool m.back) (.int .i64 m.at_) (0:Int));rw[<-hwz]at KZ HZ;obtain⟨q0,q1,q2,q3,q4⟩:=KZ.c5;clear KZ;have c0:=K.o.cell 0;have f0:=K.o.free 0;have c1:=K.o.cell 1;have f1:=K.o.free 1;have c2:=K.o.cell 2;have f2:=K.o.free 2;have c3:=K.o.cell 3;have f3:=K.o.free 3;have c4:=K.o.cell 4;have f4:=K.o.free 4;go_wp2;simp only[<-hwz];clear hwz;rw[HR.o,HQ2.o];refine d_ (v:=.tuple #[.agg #[(0:Int),.int .i64 m.which,.bool m.back,.int .i64 m.at_,(0:Int)],.bool ok]) (by simp[results,results51,go_sem,q0,q1,q2,q3,q4]) rfl ⟨rfl,HZ.o⟩
    · have HR:=H_ (zp2 HSM.o (zwp (l:=l) (by
        rcases bi_ 4 l.length with h|h
        · right;intro h';exact hgood ⟨h,h'⟩
        · left;exact h)))
      by_cases h4:4<l.length
      · obtain⟨c,r,rfl⟩:∃ c r,l=c :: r:=by
          cases l with
          | nil=>simp at h4
          | cons c r=>exact⟨c,r,rfl⟩
        have hc:(c==98)=false:=by
          cases hc:c==98
          · rfl
          · exact absurd ⟨h4, by have : c = 98 := by simpa using hc
                                 rw[this];rfl⟩ hgood
        (have h0:0<(ByteArray.mk (c :: r).toArray).size:=by show 0<(c :: r).toArray.size;simp);(have hc':((((ByteArray.mk (c :: r).toArray)[0]'h0).toNat:Int)==98)=false:=by rw[idx0,eq98,hc]);(have hr4:4<=r.length:=by simp at h4;omega);clear hgood h4 hc
        go_enter func51,ntmps51
        go_wp2_with fail
        simp only[<-hw0];clear hw0;go_loopw [4] (λi wr=>i=.int .i64 0/\Q_ (Blk w (.cells #[(0:Int),(0:Int),.bool false,(0:Int),(0:Int)] 69) wr)/\Q_ (Below w w wr)) (λi _=>100-(intOf i).toNat)
        case atStart=>exact⟨rfl,K,HB⟩
        case round=>
          clear HB K;obtain⟨rfl,K,HB⟩:=hrel;go_wp2_with fail
          obtain⟨m,ok,hm,hok,hq1,hq2⟩:=zmp (zbg (c :: r));have HQ1:=H_ hq1;have HQ2:=H_ hq2;clear hm hok hq1 hq2;refine(zmf (c :: r) _ rfl _ hl).mono ?_;rintro e w6 ⟨rfl,hb⟩;rw[HQ1.o];replace K:=K.kb hb;replace HB:=HB.ts hb;clear hb;have hb:Below w6 w6 (w6.alloc (.cells #[.int .i64 m.which,.bool m.back,.int .i64 m.at_] 67)):=(B_ _ _).alloc (le_ _) _;replace K:=K.kb hb;replace HB:=HB.ts hb;clear hb;have⟨wz,hwz⟩:=x5_ (w6.alloc (.cells #[.int .i64 m.which,.bool m.back,.int .i64 m.at_] 67)) w (0:Int) (.int .i64 m.which) (.bool m.back) (.int .i64 m.at_) (0:Int);have KZ:=K.o.set5 (0:Int) (.int .i64 m.which) (.bool m.back) (.int .i64 m.at_) (0:Int);have HZ:=H_ (zeu HB.o (le_ _) (0:Int) (.int .i64 m.which) (.bool m.back) (.int .i64 m.at_) (0:Int));rw[<-hwz]at KZ HZ;obtain⟨q0,q1,q2,q3,q4⟩:=KZ.c5;clear KZ;have c0:=K.o.cell 0;have f0:=K.o.free 0;have c1:=K.o.cell 1;have f1:=K.o.free 1;have c2:=K.o.cell 2;have f2:=K.o.free 2;have c3:=K.o.cell 3;have f3:=K.o.free 3;have c4:=K.o.cell 4;have f4:=K.o.free 4;go_wp2;simp only[<-hwz];clear hwz;rw[HR.o,HQ2.o];refine d_ (v:=.tuple #[.agg #[(0:Int),.int .i64 m.which,.bool m.back,.int .i64 m.at_,(0:Int)],.bool ok]) (by simp[results,results51,go_sem,q0,q1,q2,q3,q4]) rfl ⟨rfl,HZ.o⟩
      · have h4':l.length<=4:=by omega
        clear hgood h4
        go_enter func51,ntmps51
        go_wp2_with fail
        simp only[<-hw0];clear hw0;go_loopw [4] (λi wr=>i=.int .i64 0/\Q_ (Blk w (.cells #[(0:Int),(0:Int),.bool false,(0:Int),(0:Int)] 69) wr)/\Q_ (Below w w wr)) (λi _=>100-(intOf i).toNat)
        case atStart=>exact⟨rfl,K,HB⟩
        case round=>
          clear HB K;obtain⟨rfl,K,HB⟩:=hrel;go_wp2_with fail
          obtain⟨m,ok,hm,hok,hq1,hq2⟩:=zmp (zbg (l));have HQ1:=H_ hq1;have HQ2:=H_ hq2;clear hm hok hq1 hq2;refine(zmf (l) _ rfl _ hl).mono ?_;rintro e w6 ⟨rfl,hb⟩;rw[HQ1.o];replace K:=K.kb hb;replace HB:=HB.ts hb;clear hb;have hb:Below w6 w6 (w6.alloc (.cells #[.int .i64 m.which,.bool m.back,.int .i64 m.at_] 67)):=(B_ _ _).alloc (le_ _) _;replace K:=K.kb hb;replace HB:=HB.ts hb;clear hb;have⟨wz,hwz⟩:=x5_ (w6.alloc (.cells #[.int .i64 m.which,.bool m.back,.int .i64 m.at_] 67)) w (0:Int) (.int .i64 m.which) (.bool m.back) (.int .i64 m.at_) (0:Int);have KZ:=K.o.set5 (0:Int) (.int .i64 m.which) (.bool m.back) (.int .i64 m.at_) (0:Int);have HZ:=H_ (zeu HB.o (le_ _) (0:Int) (.int .i64 m.which) (.bool m.back) (.int .i64 m.at_) (0:Int));rw[<-hwz]at KZ HZ;obtain⟨q0,q1,q2,q3,q4⟩:=KZ.c5;clear KZ;have c0:=K.o.cell 0;have f0:=K.o.free 0;have c1:=K.o.cell 1;have f1:=K.o.free 1;have c2:=K.o.cell 2;have f2:=K.o.free 2;have c3:=K.o.cell 3;have f3:=K.o.free 3;have c4:=K.o.cell 4;have f4:=K.o.free 4;go_wp2;simp only[<-hwz];clear hwz;rw[HR.o,HQ2.o];refine d_ (v:=.tuple #[.agg #[(0:Int),.int .i64 m.which,.bool m.back,.int .i64 m.at_,(0:Int)],.bool ok]) (by simp[results,results51,go_sem,q0,q1,q2,q3,q4]) rfl ⟨rfl,HZ.o⟩
def zfl(P:Value->Value->Value->Value->ByteArray->World->Prop)(e:Ending)(w':World):Prop:=∃ a b c d s,e=.returned (.tuple #[ο a b c d,.string s])/\P a b c d s w'
def okS(b:Bool):ByteArray:=if b then ⟨#[111,107]⟩ else ⟨#[110,111]⟩
theorem zst {o:Option Ac} {a:Ac}(h:o=some a):zco o=.tuple #[zhi a,.bool true]:=by subst h;rfl
theorem zxn(lo hi:Nat)(a b c d:Value)(D:Dsk)(A:Ac)(l:List UInt8)(s:ByteArray)(hs:s=⟨l.toArray⟩)(w:World)(hE:zax w)(hN:Env w)(hx:Θ lo hi w a b c d D)(hh:hi<=w)(hm:D.size<=1048576)(hv:φ D=true)(hl:l.length<=2097152)(hr:zbb l=some A):
  Calls prog 20 #[ο a b c d,.string s] w (zfl λa' b' c' d' s' w'=>s'=okS (Χ D A).2/\Κ w w' w' a' b' c' d' (Χ D A).1/\Below w w w'):=by
 subst hs;have HM:=H_ hm;have⟨w0,hw0⟩:=ex_ ((w.alloc (.cells #[a,b,c,d] 31)).alloc (.cells #[(),(),(),()] 31));have hb0:Below w w w0:=by rw[hw0];exact((B_ _ _).alloc (le_ _) _).alloc (by simp) _
 have hs0:w0=w.heap.size+2:=by rw[hw0];simp
 have K1:Q_ (Blk w (.cells #[a,b,c,d] 31) w0):=by
  rw[hw0];exact H_ ((κ w _).below ((B_ (w.alloc _).heap.size _).alloc (le_ _) _) (by simp))
 have K3:Q_ (Blk (w+1) (.cells #[(),(),(),()] 31) w0):=by
  have h:=κ (w.alloc (.cells #[a,b,c,d] 31)) (.cells #[(),(),(),()] 31);rw[μ]at h;rw[hw0];exact H_ h
 have HX:=H_ (hx.below hb0 hh);have HB:=H_ hb0;have HE:=H_ (hE.below hb0);have HN:=H_ (hN.below hb0);have HW0:=H_ hw0;have HV:=H_ hv;have HRA:=H_ hr;clear hx hE hN hb0 hw0 hv hr hm;have⟨d0,d1,d2,d3⟩:=K1.o.c4
 go_enter func20,ntmps20
 go_wp2_with (rw[<-HW0.o])
 refine(zhl _ _ a b c d D w0 HE.o HX.o (by omega) HM.o).mono ?_;rintro e1 w1 ⟨rfl,hb1⟩;rw[HV.o];have hs1:=hb1.size;replace HB:=HB.tr hb1 (by omega);replace K1:=K1.kb hb1;replace K3:=K3.kb hb1;replace HX:=H_ (HX.o.below hb1 (by omega));replace HE:=H_ (HE.o.below hb1);replace HN:=H_ (HN.o.below hb1);clear hb1 d0 d1 d2 d3;go_wp2_with fail
 refine(zrv l _ rfl w1 HN.o hl).mono ?_;rintro e2 w2 ⟨rfl,hb2⟩;rw[zst HRA.o];unfold zhi;have hs2:=hb2.size;replace HB:=HB.tr hb2 (by omega);replace K1:=K1.kb hb2;replace K3:=K3.kb hb2;replace HX:=H_ (HX.o.below hb2 (by omega));replace HE:=H_ (HE.o.below hb2);clear hb2 HN;have⟨w3,hw3⟩:=xa_ w2 #[.int .i64 A.kind,.int .i64 A.step.which,.bool A.step.back,.int .i64 A.step.at_,.int .i64 A.count] 69;obtain⟨hb3,KA_,hs3⟩:=Η hw3;have KA:=H_ KA_;replace HB:=HB.tr hb3 (by omega);replace K1:=K1.kb hb3;replace K3:=K3.kb hb3;replace HX:=H_ (HX.o.below hb3 (by omega));replace HE:=H_ (HE.o.below hb3);have⟨d0,d1,d2,d3⟩:=K1.o.c4;have⟨a0,a1,a2,a3,a4⟩:=KA.o.c5;rw[hw3]at d0 d1 d2 d3 a0 a1 a2 a3 a4;clear hb3 KA_;go_wp2_with fail
 simp only[<-hw3];clear hw3 d0 d1 d2 d3 a0 a1 a2 a3 a4;refine(ztv _ _ a b c d D A w3 HE.o HX.o (by omega) HM.o).mono ?_;rintro e4 w4 ⟨x0,x1,x2,x3,ok,rfl,o_,hok,hb4⟩;obtain⟨R,t,hR⟩:∃ R t,Χ D A=(R,t):=⟨_,_,rfl⟩;have HR:=H_ hR;rw[hR]at o_ hok;obtain rfl:ok=t:=hok;clear hR;obtain⟨z0,z1,z2,z3,z4,z5,z6,z7,rfl,rfl,rfl,rfl⟩:=o_.open;have hs4:=hb4.size;replace HB:=HB.tr hb4 (by omega);replace K3:=K3.kb hb4;have O4:=H_ (o_.wide (lo':=w.heap.size) (by omega) (le_ _));have O4':=H_ o_;clear hb4 o_ K1 HX HE KA;have⟨w5,hw5⟩:=xa_ w4 #[(.slice z0 R.first z1),(.slice z2 R.goal z3),(.slice z4 R.made z5),(.slice z6 R.now z7)] 31;obtain⟨hb5,K5,hs5⟩:=Η hw5;replace HB:=HB.tr hb5 (by omega);replace K3:=K3.kb hb5;replace O4':=H_ (O4'.o.below hb5 (le_ _));obtain⟨k0,k1,k2,k3⟩:=K5.c4;have⟨c0,c1,c2,c3⟩:=K3.o.c4;have⟨f0,f1,f2,f3⟩:=K3.o.f4;have HW5:=H_ hw5;have⟨wz,hwz⟩:=x4_ w5 (w+1) (.slice z0 R.first z1) (.slice z2 R.goal z3) (.slice z4 R.made z5) (.slice z6 R.now z7);have KZ:=K3.o.set4 (.slice z0 R.first z1) (.slice z2 R.goal z3) (.slice z4 R.made z5) (.slice z6 R.now z7);have hO:=β.set4 (w+1) w5 (.slice z0 R.first z1) (.slice z2 R.goal z3) (.slice z4 R.made z5) (.slice z6 R.now z7);rw[<-hwz]at KZ hO;have hsz:=hO.size;have HZ:=H_ (ε HB.o hO (by omega) (by omega));have OZ:=H_ (O4'.o.outside hO (.inr (by omega)));obtain⟨q0,q1,q2,q3⟩:=KZ.c4;rw[hw5]at k0 k1 k2 k3 c0 c1 c2 c3 f0 f1 f2 f3 hwz;clear KZ hO hb5 K5 hw5;cases ok
 all_goals (
  go_wp2_with fail
  simp only[<-hwz])
 ·refine d_ (v:=.tuple #[ο (.slice z0 R.first z1) (.slice z2 R.goal z3) (.slice z4 R.made z5) (.slice z6 R.now z7),.string ⟨#[110,111]⟩]) (by simp[results,results20,go_sem,q0,q1,q2,q3]) rfl ⟨_,_,_,_,_,rfl,?_,?_,HZ.o⟩
  ·rw[HR.o];rfl
  ·rw[HR.o];exact OZ.o.wide (by omega) (by omega)
 ·refine d_ (v:=.tuple #[ο (.slice z0 R.first z1) (.slice z2 R.goal z3) (.slice z4 R.made z5) (.slice z6 R.now z7),.string ⟨#[111,107]⟩]) (by simp[results,results20,go_sem,q0,q1,q2,q3]) rfl ⟨_,_,_,_,_,rfl,?_,?_,HZ.o⟩
  ·rw[HR.o];rfl
  ·rw[HR.o];exact OZ.o.wide (by omega) (by omega)
theorem zpj(lo hi:Nat)(v:Value)(xs:List Int)(x:Int)(w:World)(hx:SlI lo hi w v xs)(hm:xs.length<=1048576):
  Calls prog 203 #[v,.int .i64 x] w λe w'=>e=.returned (decide (x∈xs))/\w=w':=by
 have HC:Q_ (Calls prog 227 #[v,.int .i64 x] w λe w'=>∃ n:Int,e=.returned n/\(0<=n↔x∈xs)/\w=w'):=by
  apply H_;obtain⟨a,cap,rfl,hcap,hcm,_⟩:=hx.open;have HX:=H_ hx;clear hx hcm hcap
  go_enter func227,ntmps227
  go_wp2
  go_loop [8] (λi=>∃ k:Nat,k<=xs.length/\i=.int .i64 k/\Q_ (∀ j (h1:j<k) (h2:j<xs.length),xs[j]≠x)) (λi=>xs.length-(intOf i).toNat)
  case atStart=>exact⟨0,by omega,rfl,H_ (by intro j h;omega)⟩
  case round=>
   obtain⟨k,hk,rfl,HN⟩:=hrel;by_cases hlt:k<xs.length
   ·(obtain⟨b,off,rfl,_,_,_,hcell⟩:=HX.o.get k hlt);cases hq:x==xs[k]
    ·go_wp2
     go_round
     case rel=>
      refine⟨k+1,by omega,by go_num,H_ ?_⟩;intro j h1 h2;by_cases hj:j<k
      ·exact HN.o j hj h2
      ·(obtain rfl:j=k:=by omega);intro e;rw[e]at hq;simp at hq
     case measure=>simp[intOf];omega
    ·(have e:x=xs[k]:=by simpa using hq)
     have hmem:x∈xs:=by
      rw[e];exact u_ hlt
     have HI:Q_ ((0:Int)<=(k:Int)↔x∈xs):=H_ ⟨λ_=>hmem,λ_=>by omega⟩;clear e hmem;go_wp2;go_ret;exact⟨_,rfl,HI.o,rfl⟩
   ·have hno:¬x∈xs:=by
     intro h;obtain⟨j,hj,e⟩:=ax_ h;exact HN.o j (by omega) hj e
    have HI:Q_ ((0:Int)<=-1↔x∈xs):=H_ ⟨λh=>absurd h (by omega),λh=>absurd h hno⟩;clear hno;go_wp2;go_ret;exact⟨_,rfl,HI.o,rfl⟩
 obtain⟨a,cap,rfl,_,_,_⟩:=hx.open;clear hx
 go_enter func203,ntmps203
 go_wp2_with fail
 refine HC.o.mono ?_;rintro e _ ⟨n,rfl,hn,rfl⟩;have HN:=H_ hn;clear hn HC;go_wp2;go_ret;have h2:decide (0<=n)=decide (x∈xs):=decide_eq_decide.2 HN.o;exact⟨by rw[<-h2];rfl,rfl⟩
section
def za2(t:KT)(S:List Int):List UInt8:=if t.root∈S then [40]++ψ t 1++[41] else ψ t 1
theorem zjh {t:KT}(h:t.ok 0=true):ψ t 2=za2 t [20]:=by
 cases t with
 | leaf n=>
  simp only[KT.ok,j_,t_]at h;rw[za2,m_ (by simp[KT.root];omega)];rfl
 | star t=>rw[za2,m_ (by simp[KT.root])];rfl
 | bin p a b=>cases p<;>simp[za2,KT.root,KT.op,zi2,zmr,zit,zl4]
theorem zjv {t:KT}(h:t.ok 0=true):ψ t 3=za2 t [20,19]/\ψ t 3=za2 t [19,20]:=by
 cases t with
 | leaf n=>
  simp only[KT.ok,j_,t_]at h;rw[za2,za2,m_ (by simp[KT.root];omega),m_ (by simp[KT.root];omega)];exact⟨rfl,rfl⟩
 | star t=>rw[za2,za2,m_ (by simp[KT.root]),m_ (by simp[KT.root])];exact⟨rfl,rfl⟩
 | bin p a b=>cases p<;>simp[za2,KT.root,KT.op,zi2,zmb,zit,zlp]
def TxC(t:KT):Prop:=∀ (lo:Nat) (p:Value) (w:World),RT lo none w t p->t.ok 0=true->t.size<=40->zdc w ->
 c_ 133 #[p] w (.string ⟨(ψ t 1).toArray⟩)
theorem zk9(t:KT)(ht:TxC t)(lo lo' hi':Nat)(p v:Value)(S:List Int)(w:World)(hp:RT lo none w t p)(hok:t.ok 0=true)(hs:t.size<=40)(hM:zdc w)(hx:SlI lo' hi' w v S)(hm:S.length<=100):
  c_ 177 #[p,v] w (.string ⟨(za2 t S).toArray⟩):=by
 have HC:=H_ (ht lo p w hp hok hs hM);have hb1:(ψ t 1).length<=199:=zef hok hs 1 (by omega);obtain⟨ps,⟨b,kv,rfl,_,_,hblk,_⟩,_⟩:=hp.node;obtain⟨a,cap,rfl,_,_⟩:=π hx;have HX:=H_ hx;have c0:=hblk.cell 0;clear hx ht hp;by_cases hin:t.root∈S
 ·have HT:=H_ (show za2 t S=[40]++ψ t 1++[41] by rw[za2,x_ hin])
  have hd:=b6_ hin
  go_enter func177,ntmps177
  go_wp2_with fail
  refine(zpj _ _ _ S t.root w HX.o (by omega)).mono ?_;rintro e w1 ⟨rfl,rfl⟩;rw[hd];go_wp2_with fail
  refine HC.o.mono ?_;rintro e w2 ⟨rfl,hb⟩;have HB:=H_ hb;clear hb;go_wp2;go_ret;exact⟨by rw[HT.o,<-zb5,<-zb5];rfl,HB.o⟩
 ·have HT:=H_ (show za2 t S=ψ t 1 by rw[za2,m_ hin])
  have hd:=ec_ hin
  go_enter func177,ntmps177
  go_wp2_with fail
  refine(zpj _ _ _ S t.root w HX.o (by omega)).mono ?_;rintro e w1 ⟨rfl,rfl⟩;rw[hd];go_wp2_with fail
  refine HC.o.mono ?_;rintro e w2 ⟨rfl,hb⟩;have HB:=H_ hb;clear hb;go_wp2;go_ret;exact⟨by rw[HT.o];rfl,HB.o⟩
theorem z1t(n:Int):TxC (.leaf n):=by
 intro lo p w hp hok hs hM;obtain⟨ps,⟨b,kv,rfl,_,_,hblk,_⟩,_⟩:=hp.node;have c0:w.cell? (p_ b 0)=some (.int .i64 n):=hblk.cell 0;simp only[KT.ok,j_,t_]at hok;obtain⟨hn0,hn18⟩:=hok;clear hp;by_cases h15:n<=15
 ·obtain⟨m,rfl⟩:∃ m:Nat,n=m:=⟨n.toNat,by omega⟩
  have HT:=H_ (show ψ (.leaf (m:Int)) 1=Υ m by rw[zkj,x_ h15];rfl);have hia:zal (m:Int)=false:=by simp[zal];omega
  have q1:((m:Int)==19)=false:=by simp;omega
  have q2:((m:Int)==20)=false:=by simp;omega
  have q3:((m:Int)==21)=false:=by simp;omega
  have HM:=H_ hM;clear hM
  go_enter func133,ntmps133
  go_wp2_with fail
  refine(zb3 _ w).mono ?_;rintro e w1 ⟨rfl,rfl⟩;rw[hia];go_wp2_with fail
  refine(zkb m (by omega) w HM.o).mono ?_;rintro e w1 ⟨rfl,rfl⟩;go_wp2;go_ret;exact⟨by rw[HT.o];rfl,B_ _ _⟩
 ·have h3:n=16\/n=17\/n=18:=by omega
  clear hM h15;rcases h3 with rfl|rfl|rfl
  all_goals (
   go_enter func133,ntmps133
   go_wp2_with fail
   refine(zb3 _ w).mono ?_;rintro e w1 ⟨rfl,rfl⟩;go_wp2;go_ret;exact⟨rfl,B_ _ _⟩)
theorem zuq(x:KT)(ih:TxC x):TxC (.star x):=by
 intro lo p w hp hok hs hM;have hokx:x.ok 0=true:=hok;simp only[KT.size]at hs;have hb3:(ψ x 3).length<=199:=zef hokx (by omega) 3 (by omega);have HT:=H_ (show ψ (.star x) 1=za2 x [19,20]++[42] by rw[zjf,(zjv hokx).2]);have hbl:(za2 x [19,20]).length<=199:=by rw[<-(zjv hokx).2];exact hb3
 obtain⟨ps,⟨b,kv,rfl,_,_,hblk,a,cap,rfl,hpc,hcm,hkid⟩,hstk⟩:=hp.node;have hpl:=hstk.length;simp only[KT.kids,I_,an_]at hpl
 obtain⟨u0,rfl⟩:∃ u0,ps=[u0]:=by
  match ps,hpl with
  | [x],_=>exact⟨x,rfl⟩
 obtain⟨gk,ok,rfl,_,_,hgk,kc0⟩:=hkid 0 (by simp);have hu:RT lo none w x u0:=hstk.1;have c0:w.cell? (p_ b 0)=some (.int .i64 21):=hblk.cell 0;have c1:w.cell? (p_ b 1)=some (.slice (q_ gk ok) 1 cap):=hblk.cell 1;have kc:w.cell? (p_ gk ok)=some u0:=kc0;have hb1:=ζ w (.cells #[(19:Int),(20:Int)] 3)
 have HC:=H_ (zk9 x ih lo w (w+1) u0 (.slice (q_ w 0) 2 2) [19,20] (w.alloc (.cells #[(19:Int),(20:Int)] 3)) (hu.below hb1) hokx (by omega) (hM.below hb1)
  (zct (ς 1 3 w (δ [19,20]) 2 (by omega) rfl)) (by simp))
 have HB1:=H_ hb1;clear hp hM hu hstk hkid hblk kc0 hb1;have q1:zal 21=false:=by decide
 go_enter func133,ntmps133
 go_wp2_with fail
 refine(zb3 _ w).mono ?_;rintro e w1 ⟨rfl,rfl⟩;rw[q1];go_wp2_with fail
 refine HC.o.mono ?_;rintro e w2 ⟨rfl,hb⟩;have HB:=H_ (HB1.o.trans (hb.mono (by rw[μ];omega)));clear hb;go_wp2;go_ret;exact⟨by rw[HT.o,<-zb5];rfl,HB.o⟩
end
section
theorem z0e(x y:KT)(ihx:TxC x)(ihy:TxC y):TxC (.bin false x y):=by
 intro lo p w hp hok hs hM;simp only[KT.ok,j_]at hok;obtain⟨hokx,hoky⟩:=hok;simp only[KT.size]at hs;have hbx:(za2 x [20]).length<=199:=by rw[<-zjh hokx];exact zef hokx (by omega) 2 (by omega)
 have hby:(za2 y [20,19]).length<=199:=by rw[<-(zjv hoky).1];exact zef hoky (by omega) 3 (by omega)
 have HT:=H_ (show ψ (.bin false x y) 1=za2 x [20]++[59]++za2 y [20,19] by rw[zit,zjh hokx,(zjv hoky).1];simp);obtain⟨ps,⟨b,kv,rfl,_,_,hblk,a,cap,rfl,hpc,hcm,hkid⟩,hstk⟩:=hp.node;have hpl:=hstk.length;simp only[KT.kids,I_,an_]at hpl
 obtain⟨u0,u1,rfl⟩:∃ u0 u1,ps=[u0,u1]:=by
  match ps,hpl with
  | [x,y],_=>exact⟨x,y,rfl⟩
 obtain⟨gk,ok,rfl,_,_,hgk,kc0⟩:=hkid 0 (by simp);obtain⟨gk',ok',e1,_,_,_,kc1⟩:=hkid 1 (by simp);injection e1 with e1;injection e1 with e1 e2;subst e1 e2;have HU0:=H_ hstk.1;have HU1:=H_ hstk.2.1;have HMT:=H_ hM
 have HW0:Q_ (∀ (w':World) (lo' hi':Nat) (v:Value),Below w w w'->SlI lo' hi' w' v [20]->Calls prog 177 #[u0,v] w' λe w2=>e=.returned (.string ⟨(za2 x [20]).toArray⟩)/\Below w' w' w2):=
  H_ λw' lo' hi' v hb hr=>zk9 x ihx lo lo' hi' u0 v [20] w' (zdz HU0.o hb) hokx (by omega) (hM.below hb) hr (by simp)
 have HW1:Q_ (∀ (w':World) (lo' hi':Nat) (v:Value),Below w w w'->SlI lo' hi' w' v [20,19]->Calls prog 177 #[u1,v] w' λe w2=>e=.returned (.string ⟨(za2 y [20,19]).toArray⟩)/\Below w' w' w2):=
  H_ λw' lo' hi' v hb hr=>zk9 y ihy lo lo' hi' u1 v [20,19] w' (zdz HU1.o hb) hoky (by omega) (hM.below hb) hr (by simp)
 have hgs:∀ w',Below w w w'->w'.cell? (p_ b 0)=some (.int .i64 19)/\w'.cell? (p_ b 1)=some (.slice (q_ gk ok) 2 cap)/\w'.cell? (p_ gk ok)=some u0/\w'.cell? (p_ gk (ok+1))=some u1:=λw' hb=>
  ⟨(hblk.below hb hblk.lt).cell 0,(hblk.below hb hblk.lt).cell 1,(hb.cell (p:=p_ gk ok) hgk).trans kc0,(hb.cell (p:=p_ gk (ok+1)) hgk).trans kc1⟩
 obtain⟨c0,c1,kc0',kc1'⟩:=hgs w (B_ _ _);have HGS:=H_ hgs;have q1:zal 19=false:=by decide
 have hbA:Below w w ((w.alloc (.cells #[(20:Int)] 3)).drew):=z_ (ζ _ _);have hbB:Below w w (((w.alloc (.cells #[(20:Int)] 3)).alloc (.cells #[(20:Int),(19:Int)] 3)).drew):=z_ ((ζ w _).alloc (by simp) _);have hbC:Below w w (((w.alloc (.cells #[(20:Int),(19:Int)] 3)).alloc (.cells #[(20:Int)] 3)).drew):=z_ ((ζ w _).alloc (by simp) _);have hrA:SlI w (w+1) ((w.alloc (.cells #[(20:Int)] 3)).drew) (.slice (q_ w 0) 1 1) [20]:=zct (ς 1 3 w (δ [20]) 1 (by omega) rfl);have hzB:(((w.alloc (.cells #[(20:Int)] 3)).alloc (.cells #[(20:Int),(19:Int)] 3)).drew).heap.size=w.heap.size+2:=by show ((w.alloc _).alloc _).heap.size=_;simp
 have hzC:(((w.alloc (.cells #[(20:Int),(19:Int)] 3)).alloc (.cells #[(20:Int)] 3)).drew).heap.size=w.heap.size+2:=by show ((w.alloc _).alloc _).heap.size=_;simp
 have hrB1:SlI w (w+1) (((w.alloc (.cells #[(20:Int)] 3)).alloc (.cells #[(20:Int),(19:Int)] 3)).drew) (.slice (q_ w 0) 1 1) [20]:=by
  have h:Own 1 w (w+1) 3 ((w.alloc (.cells #[(20:Int)] 3)).alloc (.cells #[(20:Int),(19:Int)] 3)) (.slice (q_ w 0) 1 1) 1 (δ [20]):=zfw (ς 1 3 w (δ [20]) 1 (by omega) rfl) (ζ _ _) (by rw[μ];exact le_ _);exact zct h
 have hrB2:SlI (w+1) (w.heap.size+1+1) (((w.alloc (.cells #[(20:Int)] 3)).alloc (.cells #[(20:Int),(19:Int)] 3)).drew) (.slice (q_ (w+1) 0) 2 2) [20,19]:=by
  have h:=ς 1 3 (w.alloc (.cells #[(20:Int)] 3)) (δ [20,19]) 2 (by omega) rfl;rw[μ]at h;exact zct h
 have hrC2:SlI w (w+1) (((w.alloc (.cells #[(20:Int),(19:Int)] 3)).alloc (.cells #[(20:Int)] 3)).drew) (.slice (q_ w 0) 2 2) [20,19]:=by
  have h:Own 1 w (w+1) 3 ((w.alloc (.cells #[(20:Int),(19:Int)] 3)).alloc (.cells #[(20:Int)] 3)) (.slice (q_ w 0) 2 2) 2 (δ [20,19]):=zfw (ς 1 3 w (δ [20,19]) 2 (by omega) rfl) (ζ _ _) (by rw[μ];exact le_ _);exact zct h
 have hrC1:SlI (w+1) (w.heap.size+1+1) (((w.alloc (.cells #[(20:Int),(19:Int)] 3)).alloc (.cells #[(20:Int)] 3)).drew) (.slice (q_ (w+1) 0) 1 1) [20]:=by
  have h:=ς 1 3 (w.alloc (.cells #[(20:Int),(19:Int)] 3)) (δ [20]) 1 (by omega) rfl;rw[μ]at h;exact zct h
 have hSA:=hgs _ hbA;have hSB:=hgs _ hbB;have hSC:=hgs _ hbC;have hSD:=hgs w.drew (z_ (B_ _ _));clear hp hM hstk hkid hblk hgs
 go_enter func133,ntmps133
 go_wp2_with fail
 refine(zb3 _ w).mono ?_;rintro e w1 ⟨rfl,rfl⟩;rw[q1];go_upto_region 4 with fail
 first
 | (go_region_held_law (λw'=>w'.cell? (p_ b 0)=some (.int .i64 19)/\w'.cell? (p_ b 1)=some (.slice (q_ gk ok) 2 cap)/\w'.cell? (p_ gk ok)=some u0/\w'.cell? (p_ gk (ok+1))=some u1) (first | with_reducible assumption | go_keep) (first
  | ((have g_:=HR2);go_at_call 177;(with_reducible show Calls _ _ _ w2 _);refine(HW1.o w2 _ _ _ H2.o HR2.o).mono ?_;rintro e3 w3 ⟨rfl,h_⟩;(have h3:Below w w w3:=H2.o.trans (h_.mono H2.o.size));(have hS3:=HGS.o w3 h3);(have H3:=H_ h3);clear h_ h3 g_)
  | ((have g_:=H2);go_at_call 177;(with_reducible show Calls _ _ _ (w2.alloc (.cells #[(20:Int),(19:Int)] 3)) _);refine(HW1.o (w2.alloc (.cells #[(20:Int),(19:Int)] 3)) _ _ _ (H2.o.alloc H2.o.size (.cells #[(20:Int),(19:Int)] 3)) (zct (ς 1 3 w2 (δ [20,19]) 2 (by omega) rfl))).mono ?_;rintro e3 w3 ⟨rfl,h_⟩;(have h3:Below w w w3:=(H2.o.alloc H2.o.size (.cells #[(20:Int),(19:Int)] 3)).trans (h_.mono (H2.o.alloc H2.o.size (.cells #[(20:Int),(19:Int)] 3)).size));(have hS3:=HGS.o w3 h3);(have H3:=H_ h3);clear h_ h3 g_)
  | (go_at_call 177;(with_reducible show Calls _ _ _ ((w.alloc (.cells #[(20:Int)] 3)).drew) _);refine(HW0.o ((w.alloc (.cells #[(20:Int)] 3)).drew) _ _ _ hbA hrA).mono ?_;rintro e2 w2 ⟨rfl,h_⟩;(have h2:Below w w w2:=hbA.trans (h_.mono hbA.size));(have hS2:=HGS.o w2 h2);(have hSN2:=HGS.o (w2.alloc (.cells #[(20:Int),(19:Int)] 3)) (h2.alloc h2.size (.cells #[(20:Int),(19:Int)] 3)));(have H2:=H_ h2);clear h_ h2)
  | (go_at_call 177;(with_reducible show Calls _ _ _ (((w.alloc (.cells #[(20:Int)] 3)).alloc (.cells #[(20:Int),(19:Int)] 3)).drew) _);refine(HW0.o (((w.alloc (.cells #[(20:Int)] 3)).alloc (.cells #[(20:Int),(19:Int)] 3)).drew) _ _ _ hbB hrB1).mono ?_;rintro e2 w2 ⟨rfl,h_⟩;(have h2:Below w w w2:=hbB.trans (h_.mono hbB.size));(have hS2:=HGS.o w2 h2);(have hSN2:=HGS.o (w2.alloc (.cells #[(20:Int),(19:Int)] 3)) (h2.alloc h2.size (.cells #[(20:Int),(19:Int)] 3)));(have H2:=H_ h2);(have HR2:=H_ ((hrB2.below h_ (by show w.heap.size+1+1<=_;rw[hzB];exact le_ _))));clear h_ h2)
  | (go_at_call 177;(with_reducible show Calls _ _ _ (((w.alloc (.cells #[(20:Int),(19:Int)] 3)).alloc (.cells #[(20:Int)] 3)).drew) _);refine(HW0.o (((w.alloc (.cells #[(20:Int),(19:Int)] 3)).alloc (.cells #[(20:Int)] 3)).drew) _ _ _ hbC hrC1).mono ?_;rintro e2 w2 ⟨rfl,h_⟩;(have h2:Below w w w2:=hbC.trans (h_.mono hbC.size));(have hS2:=HGS.o w2 h2);(have hSN2:=HGS.o (w2.alloc (.cells #[(20:Int),(19:Int)] 3)) (h2.alloc h2.size (.cells #[(20:Int),(19:Int)] 3)));(have H2:=H_ h2);(have HR2:=H_ ((hrC2.below h_ (by show w.heap.size+1<=_;rw[hzC];omega))));clear h_ h2)))
 | fail
 all_goals (
  go_wp2;go_ret;exact⟨by rw[HT.o,<-zb5,<-zb5];rfl,H3.o⟩)
theorem z13(x y:KT)(ihx:TxC x)(ihy:TxC y):TxC (.bin true x y):=by
 intro lo p w hp hok hs hM;simp only[KT.ok,j_]at hok;obtain⟨hokx,hoky⟩:=hok;simp only[KT.size]at hs;have hbx:(ψ x 1).length<=199:=zef hokx (by omega) 1 (by omega);have hby:(za2 y [20]).length<=199:=by rw[<-zjh hoky];exact zef hoky (by omega) 2 (by omega)
 have HT:=H_ (show ψ (.bin true x y) 1=ψ x 1++[43]++za2 y [20] by rw[zi2,zjh hoky];simp);obtain⟨ps,⟨b,kv,rfl,_,_,hblk,a,cap,rfl,hpc,hcm,hkid⟩,hstk⟩:=hp.node;have hpl:=hstk.length;simp only[KT.kids,I_,an_]at hpl
 obtain⟨u0,u1,rfl⟩:∃ u0 u1,ps=[u0,u1]:=by
  match ps,hpl with
  | [x,y],_=>exact⟨x,y,rfl⟩
 obtain⟨gk,ok,rfl,_,_,hgk,kc0⟩:=hkid 0 (by simp);obtain⟨gk',ok',e1,_,_,_,kc1⟩:=hkid 1 (by simp);injection e1 with e1;injection e1 with e1 e2;subst e1 e2;have HU0:=H_ hstk.1;have HU1:=H_ hstk.2.1
 have HW0:Q_ (∀ (w':World),Below w w w'->Calls prog 133 #[u0] w' λe w2=>e=.returned (.string ⟨(ψ x 1).toArray⟩)/\Below w' w' w2):=
  H_ λw' hb=>ihx lo u0 w' (zdz HU0.o hb) hokx (by omega) (hM.below hb)
 have HW1:Q_ (∀ (w':World) (lo' hi':Nat) (v:Value),Below w w w'->SlI lo' hi' w' v [20]->Calls prog 177 #[u1,v] w' λe w2=>e=.returned (.string ⟨(za2 y [20]).toArray⟩)/\Below w' w' w2):=
  H_ λw' lo' hi' v hb hr=>zk9 y ihy lo lo' hi' u1 v [20] w' (zdz HU1.o hb) hoky (by omega) (hM.below hb) hr (by simp)
 have hgs:∀ w',Below w w w'->w'.cell? (p_ b 0)=some (.int .i64 20)/\w'.cell? (p_ b 1)=some (.slice (q_ gk ok) 2 cap)/\w'.cell? (p_ gk ok)=some u0/\w'.cell? (p_ gk (ok+1))=some u1:=λw' hb=>
  ⟨(hblk.below hb hblk.lt).cell 0,(hblk.below hb hblk.lt).cell 1,(hb.cell (p:=p_ gk ok) hgk).trans kc0,(hb.cell (p:=p_ gk (ok+1)) hgk).trans kc1⟩
 obtain⟨c0,c1,kc0',kc1'⟩:=hgs w (B_ _ _);have HGS:=H_ hgs;have q1:zal 20=false:=by decide
 have hbD:Below w w w.drew:=z_ (B_ _ _);have hbA:Below w w ((w.alloc (.cells #[(20:Int)] 3)).drew):=z_ (ζ _ _);have hzA:((w.alloc (.cells #[(20:Int)] 3)).drew).heap.size=w.heap.size+1:=μ _ _;have hrA:SlI w (w+1) ((w.alloc (.cells #[(20:Int)] 3)).drew) (.slice (q_ w 0) 1 1) [20]:=zct (ς 1 3 w (δ [20]) 1 (by omega) rfl);have hSA:=hgs _ hbA;have hSD:=hgs w.drew hbD;clear hp hM hstk hkid hblk hgs
 go_enter func133,ntmps133
 go_wp2_with fail
 refine(zb3 _ w).mono ?_;rintro e w1 ⟨rfl,rfl⟩;rw[q1];go_upto_region 6 with fail
 first
 | (go_region_held_law (λw'=>w'.cell? (p_ b 0)=some (.int .i64 20)/\w'.cell? (p_ b 1)=some (.slice (q_ gk ok) 2 cap)/\w'.cell? (p_ gk ok)=some u0/\w'.cell? (p_ gk (ok+1))=some u1) (first | with_reducible assumption | go_keep) (first
  | ((have g_:=HR2);go_at_call 177;(with_reducible show Calls _ _ _ w2 _);refine(HW1.o w2 _ _ _ H2.o HR2.o).mono ?_;rintro e3 w3 ⟨rfl,h_⟩;(have h3:Below w w w3:=H2.o.trans (h_.mono H2.o.size));(have hS3:=HGS.o w3 h3);(have H3:=H_ h3);clear h_ h3 g_)
  | ((have g_:=H2);go_at_call 177;(with_reducible show Calls _ _ _ (w2.alloc (.cells #[(20:Int)] 3)) _);refine(HW1.o (w2.alloc (.cells #[(20:Int)] 3)) _ _ _ (H2.o.alloc H2.o.size (.cells #[(20:Int)] 3)) (zct (ς 1 3 w2 (δ [20]) 1 (by omega) rfl))).mono ?_;rintro e3 w3 ⟨rfl,h_⟩;(have h3:Below w w w3:=(H2.o.alloc H2.o.size (.cells #[(20:Int)] 3)).trans (h_.mono (H2.o.alloc H2.o.size (.cells #[(20:Int)] 3)).size));(have hS3:=HGS.o w3 h3);(have H3:=H_ h3);clear h_ h3 g_)
  | (go_at_call 133;(with_reducible show Calls _ _ _ w.drew _);refine(HW0.o w.drew hbD).mono ?_;rintro e2 w2 ⟨rfl,h_⟩;(have h2:Below w w w2:=hbD.trans (h_.mono hbD.size));(have hS2:=HGS.o w2 h2);(have hSN2:=HGS.o (w2.alloc (.cells #[(20:Int)] 3)) (h2.alloc h2.size (.cells #[(20:Int)] 3)));(have H2:=H_ h2);clear h_ h2)
  | (go_at_call 133;(with_reducible show Calls _ _ _ ((w.alloc (.cells #[(20:Int)] 3)).drew) _);refine(HW0.o ((w.alloc (.cells #[(20:Int)] 3)).drew) hbA).mono ?_;rintro e2 w2 ⟨rfl,h_⟩;(have h2:Below w w w2:=hbA.trans (h_.mono hbA.size));(have hS2:=HGS.o w2 h2);(have hSN2:=HGS.o (w2.alloc (.cells #[(20:Int)] 3)) (h2.alloc h2.size (.cells #[(20:Int)] 3)));(have H2:=H_ h2);(have HR2:=H_ (hrA.below h_ (by show w.heap.size+1<=_;rw[hzA];exact le_ _)));clear h_ h2)))
 | fail
 all_goals (
  go_wp2;go_ret;exact⟨by rw[HT.o,<-zb5,<-zb5];rfl,H3.o⟩)
theorem z0i:∀ t:KT,TxC t:=by
 intro t
 induction t with
 | leaf n=>exact z1t n
 | star x ih=>exact zuq x ih
 | bin p x y ihx ihy=>
  cases p
  ·exact z0e x y ihx ihy
  ·exact z13 x y ihx ihy
end
theorem znu(v:Value)(es:List Int)(w:World)(hx:RdI w v es)(hm:es.length<=1048576)(hM:zdc w):
  c_ 87 #[v] w (.string ⟨(zbr es).toArray⟩):=by
 cases hk:ν es with
 | true=>
  obtain⟨t,h1,h2,ht,h4⟩:=zex hk;subst h2;rw[zqs h1 h4];have hl:t.post.length<=40:=by rw[zaz];exact h4
  obtain⟨a,cap,rfl,_,_⟩:=π hx;have HX:=H_ hx;have HM:=H_ hM;have HT:=H_ ht;have HK:=H_ hk;clear hx hM ht hk
  go_enter func87,ntmps87
  go_wp2_with fail
  refine(zc3 _ _ _ t.post _ HX.o (by omega)).mono ?_;rintro e w1 ⟨rfl,rfl⟩;rw[HK.o];go_wp2_with fail
  refine(zm4 _ t.post t _ HX.o (by omega) HT.o).mono ?_;rintro e w2 ⟨p,rfl,hb,hp⟩;have HB:=H_ hb;have HP:=H_ hp;have HM2:=H_ (HM.o.below hb);clear hb hp;go_wp2_with fail
  refine(z0i t _ _ _ HP.o h1 h4 HM2.o).mono ?_;rintro e w3 ⟨rfl,hb⟩;have HB3:=HB.ts hb;clear hb;go_wp2;go_ret;exact⟨rfl,HB3.o⟩
 | false=>
  have HT:=H_ (show zbr es=[] by rw[zbr,hk];rfl);obtain⟨a,cap,rfl,_,_⟩:=π hx;have HX:=H_ hx;clear hx
  go_enter func87,ntmps87
  go_wp2_with fail
  refine(zc3 _ _ _ es _ HX.o (by omega)).mono ?_;rintro e w1 ⟨rfl,rfl⟩;rw[hk];go_wp2;go_ret;exact⟨by rw[HT.o];rfl,B_ _ _⟩
def zd3{α:Type}(p:α->Bool)(xs:List α):Int:=match xs.findIdx? p with | some i=>(i:Nat) | none=>-1
theorem zsq {α:Type}(p:α->Bool)(xs:List α)(j:Nat)(h:j<xs.length)(hp:p xs[j]=true)(hn:∀ n,n<j->∀ h:n<xs.length,p xs[n]=false):zd3 p xs=(j:Nat):=by
 have:xs.findIdx? p=some j:=by
  rw[bp_];exact⟨h,hp,λn hn'=>by have:=hn n hn' (by omega);simp[this]⟩
 rw[zd3,this]
theorem zt2 {α:Type}(p:α->Bool)(xs:List α)(hn:∀ n (h:n<xs.length),p xs[n]=false):zd3 p xs=-1:=by
 have:xs.findIdx? p=none:=by
  rw[c0_];intro x hx;obtain⟨n,h,rfl⟩:=ax_ hx;exact hn n h
 rw[zd3,this]
theorem zxu {α:Type}(p:α->Bool)(xs:List α):decide (zd3 p xs≥0)=xs.any p:=by
 unfold zd3;cases h:xs.findIdx? p with
 | none=>
  rw[c0_]at h;simp only[ge_iff_le];rw[eq_comm]
  simpa using h
 | some i=>
  rw[bp_]at h;obtain⟨h1,h2,_⟩:=h;simp only[ge_iff_le];rw[eq_comm];simp;exact⟨xs[i],u_ h1,h2⟩
def zbi(lo hi:Nat)(w:World)(v:Value)(xss:List (List Int)):Prop:=
 ∃ a cap,v=.slice a xss cap/\xss.length<=cap/\cap<=maxLen/\∀ i (h:i<xss.length),∃ b off u,a=some ⟨b,off,none⟩/\lo<=b/\b<hi/\b<w.heap.size/\w.cell? (p_ b (off+i))=some u/\SlI lo hi w u xss[i]
theorem zbi.below(h:zbi lo hi w v xss)(hb:Below B w w')(hB:hi<=B):zbi lo hi w' v xss:=by
 obtain⟨a,cap,e,h1,h2,h3⟩:=h;refine⟨a,cap,e,h1,h2,λi hi'=>?_⟩;obtain⟨b,off,u,e1,e2,e3,e4,e5,e6⟩:=h3 i hi';exact⟨b,off,u,e1,e2,e3,T_ e4 hb.size,(hb.cell (p:=p_ b (off+i)) (T_ e3 hB)).trans e5,e6.below hb hB⟩
theorem zbi.outside(h:zbi lo hi w v xss)(hb:β lo' hi' w w')(hd:hi<=lo'\/hi'<=lo):zbi lo hi w' v xss:=by
 obtain⟨a,cap,e,h1,h2,h3⟩:=h;refine⟨a,cap,e,h1,h2,λi hi'=>?_⟩;obtain⟨b,off,u,e1,e2,e3,e4,e5,e6⟩:=h3 i hi';exact⟨b,off,u,e1,e2,e3,T_ e4 hb.size,by rw[ag_ (w:=w) (a:=p_ b (off+i)) (hb.block b e4 (by omega))];exact e5,e6.outside hb hd⟩
theorem zbi.wide(h:zbi lo hi w v xss)(h1:lo'<=lo)(h2:hi<=hi'):zbi lo' hi' w v xss:=by
 obtain⟨a,cap,e,k1,k2,h3⟩:=h;refine⟨a,cap,e,k1,k2,λi hi'=>?_⟩;obtain⟨b,off,u,e1,e2,e3,e4,e5,e6⟩:=h3 i hi';exact⟨b,off,u,e1,by omega,by omega,e4,e5,e6.wide h1 h2⟩
theorem zbi.get {a:Option Addr}(h:zbi lo hi w (.slice a n cap) xss)(i:Nat)(hi':i<xss.length):
  ∃ b off u,a=some ⟨b,off,none⟩/\lo<=b/\b<hi/\b<w.heap.size/\w.cell? (p_ b (off+i))=some u/\SlI lo hi w u xss[i]:=by
 obtain⟨a',cap',e,_,_,h3⟩:=h;injection e with e1 _ _;subst e1;exact h3 i hi'
theorem zbi.shape(h:zbi lo hi w v xss):∃ a cap,v=.slice a xss cap/\xss.length<=cap/\cap<=maxLen:=by
 obtain⟨a,cap,e,h1,h2,_⟩:=h;exact⟨a,cap,e,h1,h2⟩
theorem zlb {set k:Nat}(hs:set<4611686018427387904):(bits .and .i64 ((set:Int)/2 ^ k) 1==1)=set.testBit k:=by
 have h1:((set:Int)/2 ^ k)=((set/2 ^ k:Nat):Int):=by push_cast;rfl
 have h2:set/2 ^ k<4611686018427387904:=c4_ (Nat.div_le_self _ _) hs;rw[h1,show (1:Int)=((1:Nat):Int) from rfl,zrc _ _ h2 (by omega),br_,Nat.and_one_is_mod];rw[cm_];simp;omega
def zdt(lo hi:Nat)(w:World)(v:Value)(n:Nat)(ss:List Value):Prop:=
 Own 1 lo hi 22 w v ss.length ss/\∀ s∈ss,∃ xs:List Int,xs.length=n/\γ lo hi 3 w s xs
theorem zdt.below(h:zdt lo hi w v n ss)(hb:Below B w w')(hB:hi<=B):zdt lo hi w' v n ss:=
 ⟨h.1.below hb hB,λs hs=>by obtain⟨xs,h1,h2⟩:=h.2 s hs;exact⟨xs,h1,h2.below hb hB⟩⟩
theorem zdt.outside(h:zdt lo hi w v n ss)(hb:β lo' hi' w w')(hd:hi<=lo'\/hi'<=lo):zdt lo hi w' v n ss:=
 ⟨h.1.outside hb hd,λs hs=>by obtain⟨xs,h1,h2⟩:=h.2 s hs;exact⟨xs,h1,h2.outside hb hd⟩⟩
theorem zdt.lower(h:zdt lo hi w v n ss)(hl:lo'<=lo)(hh:hi<=hi'):zdt lo' hi' w v n ss:=
 ⟨h.1.wide2 hl hh,λs hs=>by obtain⟨xs,h1,h2⟩:=h.2 s hs;exact⟨xs,h1,h2.lower hl hh⟩⟩
theorem zdt.nil(lo hi n:Nat)(w:World):zdt lo hi w () n []:=⟨Ω _ _ _ _ _,λs hs=>by cases hs⟩
theorem Own.block {sz e g:Nat} {a:Addr} {xs:List Value}(h:Own sz lo hi e w (.slice (some a) n cap) n xs):a=p_ a.block 0/\lo<=a.block/\a.block<hi/\∃ cur,w.heap[a.block]?=some (.cells cur e (0,0)):=by
 obtain⟨⟨_,h1⟩,h2⟩:=h;rcases h1 with⟨h1,_⟩|⟨g',cap',cur,e1,hb,hg,_⟩
 ·cases h1
 ·simp only[Value.slice.injEq,ar_,true_and]at e1
  obtain⟨rfl,_⟩:=e1;exact⟨rfl,hb,h2 _ rfl,cur,hg⟩
theorem zdt.row(h:zdt lo hi w v n ss){k:Nat}(hk:k<ss.length)(hn:0<n):
  ∃ gO cap gi ci,v=.slice (q_ gO 0) ss cap/\ss.length<=cap/\cap<=maxLen/\ss[k]=.slice (q_ gi 0) n ci/\n<=ci/\ci<=maxLen/\lo<=gO/\lo<=gi/\gi≠gO/\gO<w.heap.size/\gi<w.heap.size /\
   w.cell? (p_ gO k)=some ss[k]/\∀ j,j<n->w.frozen? (p_ gi j)=false/\∃ z:Int,w.cell? (p_ gi j)=some (.int .i64 z):=by
 rcases h.1.1.2 with⟨_,h0⟩|⟨gO,cap,cur,rfl,hb,hgO,hc1,hc2,hc3,htk⟩
 ·omega
 ·obtain⟨xs,hxn,ho⟩:=h.2 _ (u_ hk)
  rcases ho.1.2 with⟨_,h0⟩|⟨gi,ci,cur',hv,hbi,hgi,hi1,hi2,hi3,htki⟩
  ·omega
  ·refine⟨gO,cap,gi,ci,rfl,hc1,hc2,by rw[hv,hxn],by omega,hi2,hb,hbi,λe=>?_,(L_.1 hgO).1,(L_.1 hgi).1,?_,λj hj=>⟨by simp[World.frozen?,hgi],xs[j],?_⟩⟩
   ·rw[e,hgO]at hgi
    injection hgi with hgi;injection hgi with _ h2 _;exact absurd h2 (by decide)
   ·(have:=h.1.1.cells (g:=gO) rfl k ss[k] (l_ hk))
    rwa [a5_,U_]at this
   ·(have:=ho.1.cells (g:=gi) (by rw[hv];rfl) j (.int .i64 xs[j]) (zha xs j (by omega)))
    rwa [a5_,U_]at this
def zfg(lo hi:Nat)(w:World)(v:Value)(ss:List Value):Prop:=
 Own 1 lo hi 22 w v ss.length ss/\∀ s∈ss,∃ xs:List Int,xs.length<=6/\γ lo hi 3 w s xs
theorem zfg.below(h:zfg lo hi w v ss)(hb:Below B w w')(hB:hi<=B):zfg lo hi w' v ss:=
 ⟨h.1.below hb hB,λs hs=>by obtain⟨xs,h1,h2⟩:=h.2 s hs;exact⟨xs,h1,h2.below hb hB⟩⟩
theorem zfg.outside(h:zfg lo hi w v ss)(hb:β lo' hi' w w')(hd:hi<=lo'\/hi'<=lo):zfg lo hi w' v ss:=
 ⟨h.1.outside hb hd,λs hs=>by obtain⟨xs,h1,h2⟩:=h.2 s hs;exact⟨xs,h1,h2.outside hb hd⟩⟩
theorem zfg.lower(h:zfg lo hi w v ss)(hl:lo'<=lo)(hh:hi<=hi'):zfg lo' hi' w v ss:=
 ⟨h.1.wide2 hl hh,λs hs=>by obtain⟨xs,h1,h2⟩:=h.2 s hs;exact⟨xs,h1,h2.lower hl hh⟩⟩
theorem zbi.nil(lo hi:Nat)(w:World):zbi lo hi w () []:=⟨none,0,rfl,le_ _,by decide,λi h=>by simp at h⟩
end Go.Proofs.YtfnnhimopokpnaaGreatDoor
