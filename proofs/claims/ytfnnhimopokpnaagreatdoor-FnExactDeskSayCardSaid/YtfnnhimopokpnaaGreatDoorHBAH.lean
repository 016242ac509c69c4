/- Lemmas for this seat; no condition. -/
import Derived.Test.YtfnnhimopokpnaaGreatDoorHBAG
namespace Go.Proofs.YtfnnhimopokpnaaGreatDoor
open Go.RowKit Proofs.Tryz
set_option maxRecDepth 100000
set_option maxHeartbeats 0
set_option linter.all false
variable {e lo hi B n lo' hi':Nat} {w' w wr w2 w3 w4:World} {vm vo v3 v:Value} {ms:List Mv} {x y:List Int}
def zfp(P:Value->Value->Value->Value->World->Prop)(e:Ending)(w':World):Prop:=∃ a b c d,e=.returned (ν a b c d)/\P a b c d w'
theorem zfp.mk {P:Value->Value->Value->Value->World->Prop} {e:Ending}(a b c d:Value)(h:e=.returned (ν a b c d))(hp:P a b c d w'):zfp P e w':=⟨a,b,c,d,h,hp⟩
def Dsk.none:Dsk:=⟨[],[],[],[]⟩
def zk0(xs ys:List Int):Dsk:=if μ xs&&μ ys then ⟨xs,ys,[],xs⟩ else Dsk.none
abbrev zk8(w:World)(D:Dsk):Ending->World->Prop:=zfp λa b c d w'=>Ζ w w' w' a b c d D/\Below w w w'
theorem Ζ.nils(lo hi:Nat)(h:lo<=hi)(w:World):Ζ lo hi w () () () () Dsk.none:=
 ⟨lo,lo,lo,lo,lo,lo,lo,lo,Ξ _ _ _ _ _,Ξ _ _ _ _ _,Ξ _ _ _ _ _,Ξ _ _ _ _ _,by omega,by omega,by omega,by omega,by omega,by omega,by omega,by omega,by omega,by omega⟩
theorem z0i(lo hi lo' hi':Nat)(v v':Value)(xs ys:List Int)(w:World)(hx:SlI lo hi w v xs)(hy:SlI lo' hi' w v' ys)(hh:hi<=w)(hh':hi'<=w)(hm:xs.length<=1048576)(hm':ys.length<=1048576):
  Calls prog 74 #[v,v'] w (zk8 w (zk0 xs ys)):=by
 have⟨w0,hw0⟩:=xa_ w #[(),(),(),()] 31;have HB:Q_ (Below w w w0):=by rw[hw0];exact H_ ((B_ _ _).alloc (le_ _) _)
 have K1:Q_ (Blk w (.cells #[(),(),(),()] 31) w0):=by rw[hw0];exact H_ (θ w _)
 have hsz:w0=w.heap.size+1:=by rw[hw0];simp
 have⟨hz1,hz2⟩:w+1<=w0.heap.size/\w0<=w.heap.size+1:=by omega
 have HX:=H_ (hx.below HB.o hh);have HY:=H_ (hy.below HB.o hh');clear hx hy hsz;have HD:=H_ (show zk0 xs ys=if μ xs&&μ ys then ⟨xs,ys,[],xs⟩ else Dsk.none from rfl);cases hv:μ xs
 ·go_enter func74,ntmps74
  go_wp2_with fail
  simp only[<-hw0];clear hw0;refine(zby _ _ _ xs _ HX.o hm).mono ?_;rintro e w1 ⟨rfl,rfl⟩;have⟨c0,c1,c2,c3⟩:=K1.o.c4;have⟨f0,f1,f2,f3⟩:=K1.o.f4;have⟨wz,hwz⟩:=x4_ w0 w () () () ();have KZ:=K1.o.set4 () () () ();have HO:=β.set4 w w0 () () () ();rw[<-hwz]at KZ HO;have hsz:=HO.size;replace HB:=H_ (δ HB.o HO (le_ _) HB.o.size);have HOZ:=H_ HO;obtain⟨q0,q1,q2,q3⟩:=KZ.c4;clear KZ HO;go_wp2;simp only[<-hwz];clear hwz c0 c1 c2 c3 f0 f1 f2 f3;refine a_ (v:=ν () () () ()) (by simp[results,results74,go_sem,q0,q1,q2,q3]) rfl (zfp.mk _ _ _ _ rfl ⟨?_,HB.o⟩);rw[HD.o,hv];exact Ζ.nils _ _ HB.o.size _
 ·go_enter func74,ntmps74
  go_wp2_with fail
  simp only[<-hw0];clear hw0;refine(zby _ _ _ xs _ HX.o hm).mono ?_;rintro e w1 ⟨rfl,rfl⟩;cases hv':μ ys
  ·go_wp2_with fail
   refine(zby _ _ _ ys _ HY.o hm').mono ?_;rintro e w1 ⟨rfl,rfl⟩;have⟨c0,c1,c2,c3⟩:=K1.o.c4;have⟨f0,f1,f2,f3⟩:=K1.o.f4;have⟨wz,hwz⟩:=x4_ w0 w () () () ();have KZ:=K1.o.set4 () () () ();have HO:=β.set4 w w0 () () () ();rw[<-hwz]at KZ HO;have hsz:=HO.size;replace HB:=H_ (δ HB.o HO (le_ _) HB.o.size);have HOZ:=H_ HO;obtain⟨q0,q1,q2,q3⟩:=KZ.c4;clear KZ HO;go_wp2;simp only[<-hwz];clear hwz c0 c1 c2 c3 f0 f1 f2 f3;refine a_ (v:=ν () () () ()) (by simp[results,results74,go_sem,q0,q1,q2,q3]) rfl (zfp.mk _ _ _ _ rfl ⟨?_,HB.o⟩);rw[HD.o,hv,hv'];exact Ζ.nils _ _ HB.o.size _
  ·go_wp2_with fail
   refine(zby _ _ _ ys _ HY.o hm').mono ?_;rintro e w1 ⟨rfl,rfl⟩;have OE:=H_ (π 1 3 w0 [] 0 (by omega) rfl);have hbe:Below w0 w0 (w0.alloc (.cells ([]:List Value).toArray 3)):=(B_ _ _).alloc (le_ _) _;go_wp2_with (at_builtin;refine Ο rfl _ _ 22 rfl 3 (0:Int) 1 8 underlying22 Δ rfl (by decide) (by decide) rfl OE.o rfl (HX.o.below hbe (by omega)) (Μ _) ?c1 ?c2 ?_)
   case c1=>omega
   case c2=>simp
   intro v2 w2 ob _ ho _;have hsA:w0<=w2.heap.size:=by have:=ho.size;simp at this;omega
   have hb:Below w0 w0 w2:=δ hbe ho (le_ _) (by simp);have OA:=H_ (show γ w0 w2 3 w2 v2 xs from ob);obtain⟨aa,ca,rfl⟩:=ζ OA.o;replace HB:=HB.ts hb;replace K1:=H_ (K1.o.below hb (by omega));replace HX:=H_ (HX.o.below hb (by omega));replace HY:=H_ (HY.o.below hb (by omega));clear hb ob ho hbe OE;have OE:=H_ (π 1 3 w2 [] 0 (by omega) rfl);have hbe:Below w2 w2 (w2.alloc (.cells ([]:List Value).toArray 3)):=(B_ _ _).alloc (le_ _) _;go_wp2_with (at_builtin;refine Ο rfl _ _ 22 rfl 3 (0:Int) 1 8 underlying22 Δ rfl (by decide) (by decide) rfl OE.o rfl (HY.o.below hbe (by omega)) (Μ _) ?c1 ?c2 ?_)
   case c1=>omega
   case c2=>simp
   intro v2 w3 ob _ ho _;have hsB:w2<=w3.heap.size:=by have:=ho.size;simp at this;omega
   have hb:Below w2 w2 w3:=δ hbe ho (le_ _) (by simp);have OB:=H_ (show γ w2 w3 3 w3 v2 ys from ob);obtain⟨ab,cb,rfl⟩:=ζ OB.o;replace HB:=HB.ts hb;replace K1:=H_ (K1.o.below hb (by omega));replace HX:=H_ (HX.o.below hb (by omega));replace HY:=H_ (HY.o.below hb (by omega));replace OA:=H_ (OA.o.below hb (by omega));clear hb ob ho hbe OE;have⟨w4,hw4⟩:=xa_ w3 #[] 67;have hb:Below w3 w3 w4:=by rw[hw4];exact(B_ _ _).alloc (le_ _) _
   have hs4:w3+1<=w4.heap.size:=by rw[hw4];simp
   have OC:Q_ (Ι w3 (w3+1) 67 w4 (.slice (some ⟨w3,0,none⟩) 0 0) []):=by rw[hw4];exact H_ (π 3 67 w3 [] 0 (by omega) rfl)
   replace HB:=HB.ts hb;replace HX:=H_ (HX.o.below hb (by omega));replace HY:=H_ (HY.o.below hb (by omega));replace OA:=H_ (OA.o.below hb (by omega));replace OB:=H_ (OB.o.below hb (by omega));replace K1:=K1.kb hb;clear hb
   have OE:Q_ (Own 1 (w3+1) (w3+2) 3 ((w3.alloc (.cells #[] 67)).alloc (.cells #[] 3)) (.slice (some ⟨w3+1,0,none⟩) 0 0) 0 []):=by
    have h:=π 1 3 (w3.alloc (.cells #[] 67)) [] 0 (by omega) rfl;rw[κ]at h;exact H_ h
   have hbe:Below w4 w4 ((w3.alloc (.cells #[] 67)).alloc (.cells #[] 3)):=by rw[hw4];exact(B_ _ _).alloc (le_ _) _
   have hs4':w4=w3.heap.size+1:=by rw[hw4];simp
   have HS4:=H_ hs4';have HXE:=H_ (HX.o.below hbe (by omega));have HBE:=H_ hbe;clear hw4 hs4' hbe;go_wp2_with (at_builtin;refine Ο rfl _ _ 22 rfl 3 (0:Int) 1 8 underlying22 Δ rfl (by decide) (by decide) rfl OE.o rfl HXE.o (Μ _) ?c1 ?c2 ?_)
   case c1=>omega
   case c2=>simp
   intro v2 w5 ob _ ho _;have hs4':=HS4.o;have hsD:w4<=w5.heap.size:=by have:=ho.size;simp at this;omega
   have hb:Below w4 w4 w5:=δ HBE.o ho (by omega) (by simp;omega);have OD:=H_ (show γ (w3+1) w5 3 w5 v2 xs from ob);obtain⟨ad,cd,rfl⟩:=ζ OD.o;replace HB:=HB.ts hb;replace K1:=H_ (K1.o.below hb (by omega));replace OA:=H_ (OA.o.below hb (by omega));replace OB:=H_ (OB.o.below hb (by omega));replace OC:=H_ (OC.o.below hb (by omega));clear hb ob ho HBE HXE OE hs4';have⟨c0,c1,c2,c3⟩:=K1.o.c4;have⟨f0,f1,f2,f3⟩:=K1.o.f4;have⟨wz,hwz⟩:=x4_ w5 w (.slice aa xs ca) (.slice ab ys cb) (.slice (some ⟨w3,0,none⟩) 0 0) (.slice ad xs cd);have KZ:=K1.o.set4 (.slice aa xs ca) (.slice ab ys cb) (.slice (some ⟨w3,0,none⟩) 0 0) (.slice ad xs cd);have HO:=β.set4 w w5 (.slice aa xs ca) (.slice ab ys cb) (.slice (some ⟨w3,0,none⟩) 0 0) (.slice ad xs cd);rw[<-hwz]at KZ HO;have hsz:=HO.size;replace HB:=H_ (δ HB.o HO (le_ _) HB.o.size);have HOZ:=H_ HO;obtain⟨q0,q1,q2,q3⟩:=KZ.c4;clear KZ HO;go_wp2;simp only[<-hwz];clear hwz c0 c1 c2 c3 f0 f1 f2 f3;refine a_ (v:=ν (.slice aa xs ca) (.slice ab ys cb) (.slice (some ⟨w3,0,none⟩) 0 0) (.slice ad xs cd)) (by simp[results,results74,go_sem,q0,q1,q2,q3]) rfl (zfp.mk _ _ _ _ rfl ⟨?_,HB.o⟩);rw[HD.o,hv,hv'];exact⟨_,_,_,_,_,_,_,_,OA.o.outside HOZ.o (.inr (by omega)),OB.o.outside HOZ.o (.inr (by omega)),OC.o.outside HOZ.o (.inr (by omega)),OD.o.outside HOZ.o (.inr (by omega)),by omega,by omega,by omega,by omega,by omega,by omega,by omega,by omega,by omega,by omega⟩
def ω(D:Dsk):Bool:=match υ D.first D.made with | some x=>μ D.goal&&eqL x D.now | none=>false
theorem zgs(lo hi:Nat)(a b c d:Value)(D:Dsk)(w:World)(hE:zao w)(hx:Η lo hi w a b c d D)(hh:hi<=w)(hm:D.size<=1048576):
  Calls prog 27 #[ν a b c d] w λe w'=>e=.returned (.bool (ω D))/\Below w w w':=by
 unfold Dsk.size at hm;have⟨w0,hw0⟩:=xa_ w #[a,b,c,d] 31;have HB:Q_ (Below w w w0):=by rw[hw0];exact H_ ((B_ _ _).alloc (le_ _) _)
 have K:Q_ (Blk w (.cells #[a,b,c,d] 31) w0):=by rw[hw0];exact H_ (θ w _)
 have HX:=H_ (hx.below HB.o hh);have hsz:w+1<=w0.heap.size:=by rw[hw0];simp
 have HW0:=H_ hw0;have HE:=H_ hE;have k0:=K.o.cell 0;have k2:=K.o.cell 2;clear hx hE hw0
 go_enter func27,ntmps27
 go_wp2_with (rw[<-HW0.o])
 refine(zra _ _ _ _ _ _ D.first D.made _ (HE.o.below HB.o) HX.o.first (by omega) HX.o.made (by omega)).mono ?_;rintro e w1 ⟨v1,_,rfl,hb,rfl,ho⟩;replace K:=H_ (K.o.below hb (by omega));replace HX:=H_ (HX.o.below hb (by omega));have hs1:=hb.size;replace HB:=HB.tr hb (by omega);clear hb k0 k2;have k1:=K.o.cell 1;have k3:=K.o.cell 3;cases hp:υ D.first D.made with
 | none=>
  have HR:Q_ (ω D=false):=H_ (by simp[ω,hp]);rw[hp]at ho;obtain⟨a1,c1,rfl,_⟩:=ι ho;clear hp ho;simp only[ap_];go_wp2;go_ret;exact⟨by rw[HR.o];rfl,HB.o⟩
 | some x=>
  rw[hp]at ho;have HO:=H_ ho;obtain⟨a1,c1,rfl,_⟩:=ι ho;have hx40:=(zdi (zmp hp)).2;have HR:Q_ (ω D=(μ D.goal&&eqL x D.now)):=H_ (by simp[ω,hp]);clear hp ho;simp only[ak_,N_];go_wp2_with fail
  refine(zdd _ _ _ D.goal _ HX.o.goal (by omega)).mono ?_;rintro e w2 ⟨rfl,rfl⟩;cases hk:μ D.goal
  ·rw[hk]at HR
   clear hk;go_wp2;go_ret;exact⟨by rw[HR.o];rfl,HB.o⟩
  ·rw[hk]at HR
   clear hk;go_wp2_with fail
   refine(zg7 _ _ _ _ _ _ x D.now _ HO.o.sl HX.o.now).mono ?_;rintro e w3 ⟨rfl,hb⟩;replace HB:=HB.ts hb;clear hb;go_wp2;go_ret;exact⟨by rw[HR.o];rfl,HB.o⟩
theorem zft(lo hi:Nat)(a b c d:Value)(D:Dsk)(w:World)(hx:Η lo hi w a b c d D)(hh:hi<=w)(hm:D.size<=1048576):
  Calls prog 23 #[ν a b c d] w λe w'=>e=.returned (.bool (ω D))/\Below w w w':=by
 unfold Dsk.size at hm;have⟨w0,hw0⟩:=xa_ w #[a,b,c,d] 31;have HB:Q_ (Below w w w0):=by rw[hw0];exact H_ ((B_ _ _).alloc (le_ _) _)
 have K:Q_ (Blk w (.cells #[a,b,c,d] 31) w0):=by rw[hw0];exact H_ (θ w _)
 have HX:=H_ (hx.below HB.o hh);have hsz:w+1<=w0.heap.size:=by rw[hw0];simp
 have HW0:=H_ hw0;clear hw0;have k0:=K.o.cell 0;have k2:=K.o.cell 2;clear hx
 go_enter func23,ntmps23
 go_wp2_with (rw[<-HW0.o])
 refine(zqr _ _ _ _ _ _ D.first D.made _ HX.o.first (by omega) HX.o.made (by omega)).mono ?_;rintro e w1 ⟨v1,_,rfl,hb,rfl,ho⟩;replace K:=H_ (K.o.below hb (by omega));replace HX:=H_ (HX.o.below hb (by omega));have hs1:=hb.size;replace HB:=HB.tr hb (by omega);clear hb k0 k2;have k1:=K.o.cell 1;have k3:=K.o.cell 3;cases hp:υ D.first D.made with
 | none=>
  have HR:Q_ (ω D=false):=H_ (by simp[ω,hp]);rw[hp]at ho;obtain⟨a1,c1,rfl,_⟩:=ι ho;clear hp ho;simp only[ap_];go_wp2;go_ret;exact⟨by rw[HR.o];rfl,HB.o⟩
 | some x=>
  rw[hp]at ho;have HO:=H_ ho;obtain⟨a1,c1,rfl,_⟩:=ι ho;have hx40:=(zdi (zmp hp)).2;have HR:Q_ (ω D=(μ D.goal&&eqL x D.now)):=H_ (by simp[ω,hp]);clear hp ho;simp only[ak_,N_];go_wp2_with fail
  refine(zby _ _ _ D.goal _ HX.o.goal (by omega)).mono ?_;rintro e w2 ⟨rfl,rfl⟩;cases hk:μ D.goal
  ·rw[hk]at HR
   clear hk;go_wp2;go_ret;exact⟨by rw[HR.o];rfl,HB.o⟩
  ·rw[hk]at HR
   clear hk;go_wp2_with fail
   refine(zkf _ _ _ _ _ _ x D.now _ HO.o.sl HX.o.now (by omega) (by omega)).mono ?_;rintro e w3 ⟨rfl,hb⟩;replace HB:=HB.ts hb;clear hb;go_wp2;go_ret;exact⟨by rw[HR.o];rfl,HB.o⟩
theorem zv7(lo hi:Nat)(a b c d:Value)(D:Dsk)(w:World)(hE:zao w)(hx:Η lo hi w a b c d D)(hh:hi<=w)(hm:D.size<=1048576):
  Calls prog 89 #[ν a b c d] w λe w'=>e=.returned (.bool (ω D&&eqL D.now D.goal))/\Below w w w':=by
 have hmm:=hm;unfold Dsk.size at hm;have⟨w0,hw0⟩:=xa_ w #[a,b,c,d] 31;have HB:Q_ (Below w w w0):=by rw[hw0];exact H_ ((B_ _ _).alloc (le_ _) _)
 have K:Q_ (Blk w (.cells #[a,b,c,d] 31) w0):=by rw[hw0];exact H_ (θ w _)
 have HX:=H_ (hx.below HB.o hh);have hsz:w+1<=w0.heap.size:=by rw[hw0];simp
 have HW0:=H_ hw0;have HE:=H_ hE;have⟨k0,k1,k2,k3⟩:=K.o.c4;clear hx hE hw0
 go_enter func89,ntmps89
 go_wp2_with (rw[<-HW0.o])
 refine(zgs _ _ a b c d D _ (HE.o.below HB.o) HX.o (by omega) hmm).mono ?_;rintro e w1 ⟨rfl,hb⟩;replace K:=H_ (K.o.below hb (by omega));replace HX:=H_ (HX.o.below hb (by omega));have hs1:=hb.size;replace HB:=HB.tr hb (by omega);clear hb k0 k1 k2 k3;have k1:=K.o.cell 1;have k3:=K.o.cell 3;cases hv:ω D
 ·have HV:=H_ hv
  clear hv;go_wp2;go_ret;exact⟨by rw[HV.o];rfl,HB.o⟩
 ·have HV:=H_ hv
  clear hv;go_wp2_with fail
  refine(zg7 _ _ _ _ _ _ D.now D.goal _ HX.o.now HX.o.goal).mono ?_;rintro e w3 ⟨rfl,hb⟩;replace HB:=HB.ts hb;clear hb;go_wp2;go_ret;exact⟨by rw[HV.o];rfl,HB.o⟩
theorem zy3(lo hi:Nat)(a b c d:Value)(D:Dsk)(w:World)(hx:Η lo hi w a b c d D)(hh:hi<=w)(hm:D.size<=1048576):
  Calls prog 55 #[ν a b c d] w λe w'=>e=.returned (.bool (ω D&&eqL D.now D.goal))/\Below w w w':=by
 have hmm:=hm;unfold Dsk.size at hm;have⟨w0,hw0⟩:=xa_ w #[a,b,c,d] 31;have HB:Q_ (Below w w w0):=by rw[hw0];exact H_ ((B_ _ _).alloc (le_ _) _)
 have K:Q_ (Blk w (.cells #[a,b,c,d] 31) w0):=by rw[hw0];exact H_ (θ w _)
 have HX:=H_ (hx.below HB.o hh);have hsz:w+1<=w0.heap.size:=by rw[hw0];simp
 have HW0:=H_ hw0;clear hw0;have⟨k0,k1,k2,k3⟩:=K.o.c4;clear hx
 go_enter func55,ntmps55
 go_wp2_with (rw[<-HW0.o])
 refine(zft _ _ a b c d D _ HX.o (by omega) hmm).mono ?_;rintro e w1 ⟨rfl,hb⟩;replace K:=H_ (K.o.below hb (by omega));replace HX:=H_ (HX.o.below hb (by omega));have hs1:=hb.size;replace HB:=HB.tr hb (by omega);clear hb k0 k1 k2 k3;have k1:=K.o.cell 1;have k3:=K.o.cell 3;cases hv:ω D
 ·have HV:=H_ hv
  clear hv;go_wp2;go_ret;exact⟨by rw[HV.o];rfl,HB.o⟩
 ·have HV:=H_ hv
  clear hv;go_wp2_with fail
  refine(zkf _ _ _ _ _ _ D.now D.goal _ HX.o.now HX.o.goal (by omega) (by omega)).mono ?_;rintro e w3 ⟨rfl,hb⟩;replace HB:=HB.ts hb;clear hb;go_wp2;go_ret;exact⟨by rw[HV.o];rfl,HB.o⟩
theorem zff(n:Nat)(a:Option Addr)(cap:Nat)(k r:Int)(hn:n<=9223372036854775807)(hk:k<=1048576)(hk2:-1<=k)(h1:k-n<0->r=-1)(h2:0<=k-n->r=k-n)(w:World):
  Calls prog 32 #[.slice a n cap,.int .i64 k] w λe w'=>e=.returned r/\w=w':=by
 by_cases h:k-n<0
 ·obtain rfl:=h1 h
  go_enter func32,ntmps32
  go_wp2;go_ret;exact⟨rfl,rfl⟩
 ·obtain rfl:=h2 (by omega)
  go_enter func32,ntmps32
  go_wp2;go_ret;exact⟨rfl,rfl⟩
theorem zi3 {w0:World} {o:Obj}(h:w0=w.alloc o):Below w w w0/\Blk w o w0/\w+1<=w0.heap.size:=by
 subst h;exact⟨(B_ _ _).alloc (le_ _) _,θ w o,by simp⟩
theorem Η.shapes {a b c d:Value} {D:Dsk}(h:Η lo hi w a b c d D):
  ∃ a1 a2 b1 b2 c1 c2 d1 d2,a=.slice a1 D.first a2/\b=.slice b1 D.goal b2/\c=.slice c1 D.made c2/\d=.slice d1 D.now d2/\D.first.length<=9223372036854775807/\D.goal.length<=9223372036854775807/\D.made.length<=9223372036854775807/\D.now.length<=9223372036854775807:=by
 obtain⟨a1,a2,ha,ha1,ha2⟩:=τ h.first;obtain⟨b1,b2,hb,hb1,hb2⟩:=τ h.goal;obtain⟨c1,c2,hc,hc1,hc2⟩:=h.made.shape;obtain⟨d1,d2,hd,hd1,hd2⟩:=τ h.now;unfold maxLen at ha2 hb2 hc2 hd2;exact⟨a1,a2,b1,b2,c1,c2,d1,d2,ha,hb,hc,hd,by omega,by omega,by omega,by omega⟩
theorem zr3(lo hi:Nat)(a b c d:Value)(D:Dsk)(r:Int)(w:World)(hx:Η lo hi w a b c d D)(h1:1048576<D.size->r=-1)(h2:D.size<=1048576->r=1048576-(D.size:Int)):
  Calls prog 7 #[ν a b c d,(1048576:Int)] w λe w'=>e=.returned r/\Below w w w':=by
 obtain⟨a1,a2,b1,b2,c1,c2,d1,d2,rfl,rfl,rfl,rfl,l1,l2,l3,l4⟩:=hx.shapes;obtain⟨F,G,M,N⟩:=D;simp only[Dsk.size]at h1 h2 l1 l2 l3 l4 ⊢;generalize F.length=n1 at *;generalize G.length=n2 at *;generalize M.length=n3 at *;generalize N.length=n4 at *;have HB:=H_ ((B_ w w).alloc (le_ _) (.cells #[.slice a1 n1 a2,.slice b1 n2 b2,.slice c1 n3 c2,.slice d1 n4 d2] 25));clear hx;by_cases s1:n1<=1048576
 ·by_cases s2:n1+n2<=1048576
  ·by_cases s3:n1+n2+n3<=1048576
   ·(obtain⟨r1,hr1⟩:∃ r1:Int,r1=1048576-(n1:Int):=⟨_,rfl⟩);(obtain⟨r2,hr2⟩:∃ r2:Int,r2=1048576-(n1:Int)-n2:=⟨_,rfl⟩;obtain⟨r3,hr3⟩:∃ r3:Int,r3=1048576-(n1:Int)-n2-n3:=⟨_,rfl⟩;have⟨e1,e2,e3⟩:¬r1<0/\¬r2<0/\¬r3<0:=by omega);(have A1:=H_ (λwx=>zff n1 a1 a2 1048576 r1 l1 (by omega) (by omega) (by omega) (by omega) wx);have A2:=H_ (λwx=>zff n2 b1 b2 r1 r2 l2 (by omega) (by omega) (by omega) (by omega) wx);have A3:=H_ (λwx=>zn9 n3 c1 c2 r2 r3 l3 (by omega) (by omega) (by omega) (by omega) wx);have A4:=H_ (λwx=>zff n4 d1 d2 r3 r l4 (by omega) (by omega) (by omega) (by omega) wx);have hcase:r<0/\r=-1\/¬r<0:=by omega);clear hr1 hr2 hr3 h1 h2;rcases hcase with⟨hneg,hr⟩|hneg
    ·subst hr
     go_enter func7,ntmps7
     go_wp2_with fail
     refine(A1.o _).mono ?_;rintro e1_ wx ⟨rfl,rfl⟩;go_wp2_with fail
     refine(A2.o _).mono ?_;rintro e2_ wx ⟨rfl,rfl⟩;go_wp2_with fail
     refine(A3.o _).mono ?_;rintro e3_ wx ⟨rfl,rfl⟩;go_wp2_with fail
     refine(A4.o _).mono ?_;rintro e4_ wx ⟨rfl,rfl⟩;go_wp2;go_ret;exact⟨rfl,HB.o⟩
    ·go_enter func7,ntmps7
     go_wp2_with fail
     refine(A1.o _).mono ?_;rintro e1_ wx ⟨rfl,rfl⟩;go_wp2_with fail
     refine(A2.o _).mono ?_;rintro e2_ wx ⟨rfl,rfl⟩;go_wp2_with fail
     refine(A3.o _).mono ?_;rintro e3_ wx ⟨rfl,rfl⟩;go_wp2_with fail
     refine(A4.o _).mono ?_;rintro e4_ wx ⟨rfl,rfl⟩;go_wp2;go_ret;exact⟨rfl,HB.o⟩
   ·(obtain rfl:=h1 (by omega));(obtain⟨r1,hr1⟩:∃ r1:Int,r1=1048576-(n1:Int):=⟨_,rfl⟩;obtain⟨r2,hr2⟩:∃ r2:Int,r2=1048576-(n1:Int)-n2:=⟨_,rfl⟩;have⟨e1,e2⟩:¬r1<0/\¬r2<0:=by omega);(have A1:=H_ (λwx=>zff n1 a1 a2 1048576 r1 l1 (by omega) (by omega) (by omega) (by omega) wx);have A2:=H_ (λwx=>zff n2 b1 b2 r1 r2 l2 (by omega) (by omega) (by omega) (by omega) wx);have A3:=H_ (λwx=>zn9 n3 c1 c2 r2 (-1) l3 (by omega) (by omega) (by omega) (by omega) wx);clear hr1 hr2 h1 h2);go_enter func7,ntmps7
    go_wp2_with fail
    refine(A1.o _).mono ?_;rintro e1_ wx ⟨rfl,rfl⟩;go_wp2_with fail
    refine(A2.o _).mono ?_;rintro e2_ wx ⟨rfl,rfl⟩;go_wp2_with fail
    refine(A3.o _).mono ?_;rintro e3_ wx ⟨rfl,rfl⟩;go_wp2;go_ret;exact⟨rfl,HB.o⟩
  ·obtain rfl:=h1 (by omega)
   obtain⟨r1,hr1⟩:∃ r1:Int,r1=1048576-(n1:Int):=⟨_,rfl⟩;have e1:¬r1<0:=by omega
   have A1:=H_ (λwx=>zff n1 a1 a2 1048576 r1 l1 (by omega) (by omega) (by omega) (by omega) wx);have A2:=H_ (λwx=>zff n2 b1 b2 r1 (-1) l2 (by omega) (by omega) (by omega) (by omega) wx);clear hr1 h1 h2
   go_enter func7,ntmps7
   go_wp2_with fail
   refine(A1.o _).mono ?_;rintro e1_ wx ⟨rfl,rfl⟩;go_wp2_with fail
   refine(A2.o _).mono ?_;rintro e2_ wx ⟨rfl,rfl⟩;go_wp2;go_ret;exact⟨rfl,HB.o⟩
 ·obtain rfl:=h1 (by omega)
  have A1:=H_ (λwx=>zff n1 a1 a2 1048576 (-1) l1 (by omega) (by omega) (by omega) (by omega) wx);clear h1 h2
  go_enter func7,ntmps7
  go_wp2_with fail
  refine(A1.o _).mono ?_;rintro e1_ wx ⟨rfl,rfl⟩;go_wp2;go_ret;exact⟨rfl,HB.o⟩
theorem zj5(lo hi:Nat)(a b c d:Value)(D:Dsk)(w:World)(hx:Η lo hi w a b c d D)(hh:hi<=w)(hm:D.size<=1048576):
  Calls prog 10 #[ν a b c d] w λe w'=>∃ a' b' c' d',e=.returned (ν a' b' c' d')/\Below w w w'/\Ζ w w' w' a' b' c' d' D:=by
 unfold Dsk.size at hm;have⟨w0,hw0⟩:=ex_ (((w.alloc (.cells #[a,b,c,d] 25)).alloc (.cells #[(),(),(),()] 31)).alloc (.cells #[(),(),(),()] 31));have hb0:Below w w w0:=by rw[hw0];exact(((B_ _ _).alloc (le_ _) _).alloc (by simp) _).alloc (by simp;omega) _
 have hs0:w0=w.heap.size+3:=by rw[hw0];simp
 have K1:Q_ (Blk w (.cells #[a,b,c,d] 25) w0):=by
  rw[hw0];exact H_ ((θ w _).below (((B_ (w.alloc _).heap.size _).alloc (le_ _) _).alloc (by simp) _) (by simp))
 have K2:Q_ (Blk (w+1) (.cells #[(),(),(),()] 31) w0):=by
  have h:=(θ (w.alloc (.cells #[a,b,c,d] 25)) (.cells #[(),(),(),()] 31)).below ((B_ _ _).alloc (le_ _) (.cells #[(),(),(),()] 31)) (by simp);rw[κ]at h;rw[hw0];exact H_ h
 have K3:Q_ (Blk (w+2) (.cells #[(),(),(),()] 31) w0):=by
  have h:=θ ((w.alloc (.cells #[a,b,c,d] 25)).alloc (.cells #[(),(),(),()] 31)) (.cells #[(),(),(),()] 31);rw[κ,κ]at h;rw[hw0];exact H_ h
 have HX:=H_ (hx.below hb0 hh);have HB:=H_ hb0;have HW0:=H_ hw0;clear hx hb0 hw0;have p0:=K1.o.cell 0
 go_enter func10,ntmps10
 go_wp2_with (rw[<-HW0.o])
 refine(zlu _ _ _ D.first _ HX.o.first (by omega)).mono ?_;rintro e0_ w0a ⟨v0,rfl,hb,ho⟩;have hs0a:=hb.size;have hsB0:=HB.o.size;replace K1:=H_ (K1.o.below hb (by omega));replace K2:=H_ (K2.o.below hb (by omega));replace K3:=H_ (K3.o.below hb (by omega));replace HX:=H_ (HX.o.below hb (by omega));replace HB:=HB.tr hb (by omega);obtain⟨x0,y0,rfl,_⟩:=ι ho;have⟨w1,hw⟩:=ex_ (w0a.setCell (p_ (w+2) 0) (.slice x0 D.first y0));have q0:=K3.o.cell 0;have f0:=K3.o.free 0;have ho2:=β.put (w+2) 0 w0a (.slice x0 D.first y0);rw[<-hw]at ho2;have hs1:=ho2.size;have K3n:=H_ (show Blk (w+2) (.cells #[(.slice x0 D.first y0),(),(),()] 31) w1 by rw[hw];exact K3.o.put 0 (.slice x0 D.first y0));replace K1:=H_ (K1.o.outside ho2 (.inl (by omega)));replace K2:=H_ (K2.o.outside ho2 (.inl (by omega)));replace HX:=H_ (HX.o.outside ho2 (.inl (by omega)));replace HB:=H_ (δ HB.o ho2 (by omega) (by omega));have O0:=H_ (ho.outside ho2 (.inr (by omega)));have HW:=H_ hw;clear hb ho ho2 hw p0;have p0:=K1.o.cell 1;go_wp2_with (rw[<-HW.o])
 clear K3 q0 f0 HW;have K3:=K3n;clear K3n;refine(zlu _ _ _ D.goal _ HX.o.goal (by omega)).mono ?_;rintro e1_ w1a ⟨v1,rfl,hb,ho⟩;have hs1a:=hb.size;have hsB1:=HB.o.size;replace K1:=H_ (K1.o.below hb (by omega));replace K2:=H_ (K2.o.below hb (by omega));replace K3:=H_ (K3.o.below hb (by omega));replace HX:=H_ (HX.o.below hb (by omega));replace HB:=HB.tr hb (by omega);replace O0:=H_ (O0.o.below hb (by omega));obtain⟨x1,y1,rfl,_⟩:=ι ho;have⟨w2,hw⟩:=ex_ (w1a.setCell (p_ (w+2) 1) (.slice x1 D.goal y1));have q0:=K3.o.cell 1;have f0:=K3.o.free 1;have ho2:=β.put (w+2) 1 w1a (.slice x1 D.goal y1);rw[<-hw]at ho2;have hs2:=ho2.size;have K3n:=H_ (show Blk (w+2) (.cells #[(.slice x0 D.first y0),(.slice x1 D.goal y1),(),()] 31) w2 by rw[hw];exact K3.o.put 1 (.slice x1 D.goal y1));replace K1:=H_ (K1.o.outside ho2 (.inl (by omega)));replace K2:=H_ (K2.o.outside ho2 (.inl (by omega)));replace HX:=H_ (HX.o.outside ho2 (.inl (by omega)));replace HB:=H_ (δ HB.o ho2 (by omega) (by omega));replace O0:=H_ (O0.o.outside ho2 (.inr (by omega)));have O1:=H_ (ho.outside ho2 (.inr (by omega)));have HW:=H_ hw;clear hb ho ho2 hw p0;have p0:=K1.o.cell 2;go_wp2_with (rw[<-HW.o])
 clear K3 q0 f0 HW;have K3:=K3n;clear K3n;refine(z0s _ _ _ D.made _ HX.o.made (by omega) (by omega)).mono ?_;rintro e2_ w2a ⟨v2,rfl,hb,ho⟩;have hs2a:=hb.size;have hsB2:=HB.o.size;replace K1:=H_ (K1.o.below hb (by omega));replace K2:=H_ (K2.o.below hb (by omega));replace K3:=H_ (K3.o.below hb (by omega));replace HX:=H_ (HX.o.below hb (by omega));replace HB:=HB.tr hb (by omega);replace O0:=H_ (O0.o.below hb (by omega));replace O1:=H_ (O1.o.below hb (by omega));obtain⟨x2,y2,rfl,_⟩:=ι ho;have⟨w3,hw⟩:=ex_ (w2a.setCell (p_ (w+2) 2) (.slice x2 D.made y2));have q0:=K3.o.cell 2;have f0:=K3.o.free 2;have ho2:=β.put (w+2) 2 w2a (.slice x2 D.made y2);rw[<-hw]at ho2;have hs3:=ho2.size;have K3n:=H_ (show Blk (w+2) (.cells #[(.slice x0 D.first y0),(.slice x1 D.goal y1),(.slice x2 D.made y2),()] 31) w3 by rw[hw];exact K3.o.put 2 (.slice x2 D.made y2));replace K1:=H_ (K1.o.outside ho2 (.inl (by omega)));replace K2:=H_ (K2.o.outside ho2 (.inl (by omega)));replace HX:=H_ (HX.o.outside ho2 (.inl (by omega)));replace HB:=H_ (δ HB.o ho2 (by omega) (by omega));replace O0:=H_ (O0.o.outside ho2 (.inr (by omega)));replace O1:=H_ (O1.o.outside ho2 (.inr (by omega)));have O2:=H_ (ho.outside ho2 (.inr (by omega)));have HW:=H_ hw;clear hb ho ho2 hw p0;have p0:=K1.o.cell 3;go_wp2_with (rw[<-HW.o])
 clear K3 q0 f0 HW;have K3:=K3n;clear K3n;refine(zlu _ _ _ D.now _ HX.o.now (by omega)).mono ?_;rintro e3_ w3a ⟨v3,rfl,hb,ho⟩;have hs3a:=hb.size;have hsB3:=HB.o.size;replace K1:=H_ (K1.o.below hb (by omega));replace K2:=H_ (K2.o.below hb (by omega));replace K3:=H_ (K3.o.below hb (by omega));replace HX:=H_ (HX.o.below hb (by omega));replace HB:=HB.tr hb (by omega);replace O0:=H_ (O0.o.below hb (by omega));replace O1:=H_ (O1.o.below hb (by omega));replace O2:=H_ (O2.o.below hb (by omega));obtain⟨x3,y3,rfl,_⟩:=ι ho;have⟨w4,hw⟩:=ex_ (w3a.setCell (p_ (w+2) 3) (.slice x3 D.now y3));have q0:=K3.o.cell 3;have f0:=K3.o.free 3;have ho2:=β.put (w+2) 3 w3a (.slice x3 D.now y3);rw[<-hw]at ho2;have hs4:=ho2.size;have K3n:=H_ (show Blk (w+2) (.cells #[(.slice x0 D.first y0),(.slice x1 D.goal y1),(.slice x2 D.made y2),(.slice x3 D.now y3)] 31) w4 by rw[hw];exact K3.o.put 3 (.slice x3 D.now y3));replace K1:=H_ (K1.o.outside ho2 (.inl (by omega)));replace K2:=H_ (K2.o.outside ho2 (.inl (by omega)));replace HX:=H_ (HX.o.outside ho2 (.inl (by omega)));replace HB:=H_ (δ HB.o ho2 (by omega) (by omega));replace O0:=H_ (O0.o.outside ho2 (.inr (by omega)));replace O1:=H_ (O1.o.outside ho2 (.inr (by omega)));replace O2:=H_ (O2.o.outside ho2 (.inr (by omega)));have O3:=H_ (ho.outside ho2 (.inr (by omega)));have HW:=H_ hw;clear hb ho ho2 hw p0;have p0:=K1.o.cell 3;have⟨m0,m1,m2,m3⟩:=K3n.o.c4;have⟨r0,r1,r2,r3⟩:=K2.o.c4;have⟨g0,g1,g2,g3⟩:=K2.o.f4;have⟨wz,hwz⟩:=x4_ w4 (w+1) (.slice x0 D.first y0) (.slice x1 D.goal y1) (.slice x2 D.made y2) (.slice x3 D.now y3);have KZ:=K2.o.set4 (.slice x0 D.first y0) (.slice x1 D.goal y1) (.slice x2 D.made y2) (.slice x3 D.now y3);have hO:=β.set4 (w+1) w4 (.slice x0 D.first y0) (.slice x1 D.goal y1) (.slice x2 D.made y2) (.slice x3 D.now y3);rw[<-hwz]at KZ hO;have hsz:=hO.size;have HZ:=H_ (δ HB.o hO (by omega) (by omega));replace O0:=H_ (O0.o.outside hO (.inr (by omega)));replace O1:=H_ (O1.o.outside hO (.inr (by omega)));replace O2:=H_ (O2.o.outside hO (.inr (by omega)));replace O3:=H_ (O3.o.outside hO (.inr (by omega)));obtain⟨z0,z1,z2,z3⟩:=KZ.c4;clear KZ hO;go_wp2_with (rw[<-HW.o])
 simp only[<-hwz];clear hwz;refine a_ (v:=.agg #[(.slice x0 D.first y0),(.slice x1 D.goal y1),(.slice x2 D.made y2),(.slice x3 D.now y3)]) (by simp[results,results10,go_sem,z0,z1,z2,z3]) rfl ⟨_,_,_,_,rfl,HZ.o,?_⟩;exact⟨w0,w0a.heap.size,w1.heap.size,w1a.heap.size,w2.heap.size,w2a.heap.size,w3.heap.size,w3a.heap.size,O0.o,O1.o,O2.o,O3.o,by omega,by omega,by omega,by omega,by omega,by omega,by omega,by omega,by omega,by omega⟩
def zcy(a:Nat):List Mv:=zc2.map λn=>⟨(n:Nat),false,(a:Nat)⟩
def zcs(e:List Int)(a:Nat):List Mv:=((List.range e.length).drop a).flatMap zcy
theorem zqt(e:List Int)(a:Nat)(h:e.length<=a):zcs e a=[]:=by unfold zcs;rw[ah_ (by simpa using h)];rfl
theorem zoq(e:List Int)(a:Nat)(h:a<e.length):zcs e a=zcy a++zcs e (a+1):=by
 unfold zcs;rw[q_ (by simpa using h)];simp
theorem zvf(a:Nat):(zcy a).length=11:=rfl
theorem znp(a j:Nat)(h:j<11):(zcy a).drop j=⟨((zc2[j]'h:Nat):Int),false,(a:Nat)⟩ :: (zcy a).drop (j+1):=by
 rw[q_ (by rw[zvf];exact h)];simp[zcy];rfl
def zey:Array Value:=#[(2:Int),(3:Int),(5:Int),(6:Int),(7:Int),(8:Int),(15:Int),(16:Int),(17:Int),(18:Int),(19:Int)]
theorem zm4(j:Nat)(h:j<11):zey[j]?=some (.int .i64 ((zc2[j]'h:Nat):Int)):=by
 have hj:j=0\/j=1\/j=2\/j=3\/j=4\/j=5\/j=6\/j=7\/j=8\/j=9\/j=10:=by omega
 rcases hj with rfl|rfl|rfl|rfl|rfl|rfl|rfl|rfl|rfl|rfl|rfl<;>rfl
def RetS(P:Mv->Bool->World->Prop)(e:Ending)(w':World):Prop:=∃ m ok,e=.returned (.tuple #[zhx m,.bool ok])/\P m ok w'
theorem zww(ve:Value)(e:List Int)(w:World)(hE:zao w)(hx:RdI w ve e)(hv:μ e=true):
  Calls prog 213 #[ve] w (RetS λm ok w'=>Below w w w'/\ok=(zbo e).isSome/\∀ m' x,zbo e=some (m',x)->m=m'):=by
 have hl40:=(zdi hv).2;have HX:=H_ hx;have HE:=H_ hE;have HV:=H_ hv;obtain⟨ea,ecap,rfl,_⟩:=hx.open;have HF:Q_ (zbo e=zbv e (zcs e 0)):=H_ rfl;have⟨w0,hw0⟩:=xa_ w #[(0:Int),.bool false,(0:Int)] 67;have hb0:Below w w w0:=by rw[hw0];exact(B_ _ _).alloc (le_ _) _
 have K0:=H_ (show Blk w (.cells #[(0:Int),.bool false,(0:Int)] 67) w0 by rw[hw0];exact θ w _);have HB0:=H_ hb0;have HW0:=H_ hw0;clear hx hE hv hb0 hw0
 go_enter func213,ntmps213
 go_wp2;simp only[<-HW0.o];go_loopw [12] (λi wr=>∃ a:Nat,a<=e.length/\i=.int .i64 a/\Q_ (Below w w wr/\Blk w (.cells #[(0:Int),.bool false,(0:Int)] 67) wr/\zbo e=zbv e (zcs e a))) (λi _=>e.length-(intOf i).toNat)
 case atStart=>exact⟨0,by omega,rfl,H_ ⟨HB0.o,K0.o,HF.o⟩⟩
 case round=>
  obtain⟨a,ha,rfl,HQ⟩:=hrel;have HB:=H_ HQ.o.1;have hsz:=HB.o.size;by_cases hlt:a<e.length
  ·have HFA:=H_ (HQ.o.2.2.trans (by rw[zoq e a hlt]))
   have⟨w1,hw1⟩:=xa_ wr zey 3;have hb1:Below wr wr w1:=by rw[hw1];exact(B_ _ _).alloc (le_ _) _
   have⟨gE,hgE⟩:=ex_ wr.heap.size;have HKE:=H_ (show Blk gE (.cells zey 3) w1 by rw[hw1,hgE];exact θ wr _);have HB1:=HB.tr hb1 hsz;have HK1:=H_ (HQ.o.2.1.below hb1 HQ.o.2.1.lt);have HW1:=H_ hw1;clear hb1 hw1 HB0 K0;go_wp2;simp only[show (Obj.cells #[(2:Int),(3:Int),(5:Int),(6:Int),(7:Int),(8:Int),(15:Int),(16:Int),(17:Int),(18:Int),(19:Int)] 3)=.cells zey 3 from rfl,<-HW1.o];have HG:=H_ hgE;clear hgE;simp only[<-HG.o];go_loopw [17] (λi wr=>∃ j:Nat,j<=11/\i=.int .i64 j/\Q_ (Below w w wr/\Blk w (.cells #[(0:Int),.bool false,(0:Int)] 67) wr/\Blk gE (.cells zey 3) wr/\zbo e=zbv e ((zcy a).drop j++zcs e (a+1)))) (λi _=>11-(intOf i).toNat)
   case atStart=>exact⟨0,by omega,rfl,H_ ⟨HB1.o,HK1.o,HKE.o,HFA.o⟩⟩
   case round=>
    obtain⟨j,hj,rfl,HI⟩:=hrel;have HBX:=H_ HI.o.1;have hszx:=HBX.o.size;have HKX:=H_ HI.o.2.1;have HEX:=H_ HI.o.2.2.1;by_cases hjl:j<11
    ·(have HFJ:=H_ (HI.o.2.2.2.trans (by rw[znp a j hjl];rfl:_=zbv e (⟨((zc2[j]'hjl:Nat):Int),false,(a:Nat)⟩ :: ((zcy a).drop (j+1)++zcs e (a+1))))));(have hcell:wr.cell? (p_ gE j)=some (.int .i64 ((zc2[j]'hjl:Nat):Int)):=(HEX.o.cell j).trans (zm4 j hjl);generalize (zc2[j]'hjl)=n at HFJ hcell;have⟨w2,hw2⟩:=xa_ wr #[.int .i64 (n:Nat),.bool false,.int .i64 (a:Nat)] 67;have hb2:Below wr wr w2:=by rw[hw2];exact(B_ _ _).alloc (le_ _) _);(have KM:=H_ (show Blk wr (.cells #[.int .i64 (n:Nat),.bool false,.int .i64 (a:Nat)] 67) w2 by rw[hw2];exact θ wr _);have HB2:=HBX.tr hb2 hszx;have HK2:=HKX.kb hb2;have HE2:=HEX.kb hb2;have hs2:=HB2.o.size;have HW2:=H_ hw2;have⟨k0,k1,k2⟩:=KM.o.c3;clear hb2 hw2 HI;go_wp2_with (rw[<-HW2.o]));refine(zl8 _ e ⟨n,false,a⟩ w2 (HE.o.below HB2.o) (HX.o.below HB2.o) HV.o).mono ?_;rintro e3 w3 ⟨v3,x3,rfl,hb3,hres⟩;have HB3:=HB2.tr hb3 hs2;have HK3:=HK2.kb hb3;have HE3:=HE2.kb hb3;have KM3:=KM.kb hb3;clear hb3 hcell HKX HEX HK2 HE2 KM k0 k1 k2;cases hmv:Ν e ⟨n,false,a⟩ with
     | none=>
      rw[hmv]at hres;obtain⟨rfl,g,rfl,_⟩:=hres;have HN:=H_ (HFJ.o.trans (by rw[zbv,hmv]:_=zbv e ((zcy a).drop (j+1)++zcs e (a+1))));clear hmv;go_wp2;go_roundw
      (case rel=>exact⟨j+1,by omega,by go_num,H_ ⟨HB3.o,HK3.o,HE3.o,HN.o⟩⟩);case measure=>simp[intOf];omega
     | some y=>
      rw[hmv]at hres;obtain⟨rfl,ho3⟩:=hres;have HN:=H_ (HFJ.o.trans (by rw[zbv,hmv]:_=some ((⟨n,false,a⟩:Mv),y)));obtain⟨ya,yc,rfl,_⟩:=ι ho3;have⟨m0,m1,m2⟩:=KM3.o.c3;have⟨r0,r1,r2⟩:=HK3.o.c3;have⟨f0,f1,f2⟩:=HK3.o.f3;have⟨wz,hwz⟩:=x3_ w3 w (.int .i64 (n:Nat)) (.bool false) (.int .i64 (a:Nat));have KZ:=HK3.o.set3 (.int .i64 (n:Nat)) (.bool false) (.int .i64 (a:Nat));have hOZ:=β.set3 w w3 (.int .i64 (n:Nat)) (.bool false) (.int .i64 (a:Nat));rw[<-hwz]at KZ hOZ;have HZ:=H_ (δ HB3.o hOZ (le_ _) HB3.o.size);obtain⟨q0,q1,q2⟩:=KZ.c3;clear hmv ho3 KZ hOZ;go_wp2;simp only[<-hwz];clear hwz;refine a_ (v:=.tuple #[.agg #[.int .i64 (n:Nat),.bool false,.int .i64 (a:Nat)],.bool true]) (by simp[results,results213,go_sem,q0,q1,q2]) rfl ⟨⟨n,false,a⟩,true,rfl,HZ.o,?_,?_⟩
      ·rw[HN.o];rfl
      ·intro m' x h
       rw[HN.o]at h;injection h with h;injection h with h _
    ·(obtain rfl:j=11:=by omega);(have HN:=H_ (HI.o.2.2.2);rw[show (zcy a).drop 11=[] from rfl,J_]at HN;clear HI;go_wp2;go_roundw);(case rel=>exact⟨a+1,by omega,by go_num,H_ ⟨HBX.o,HKX.o,HN.o⟩⟩);case measure=>simp[intOf];omega
  ·obtain rfl:a=e.length:=by omega
   have HN:=H_ HQ.o.2.2;rw[zqt e _ (le_ _)]at HN;have HK:=H_ HQ.o.2.1;have⟨r0,r1,r2⟩:=HK.o.c3;have⟨f0,f1,f2⟩:=HK.o.f3;have⟨wz,hwz⟩:=x3_ wr w (0:Int) (.bool false) (0:Int);have KZ:=HK.o.set3 (0:Int) (.bool false) (0:Int);have hOZ:=β.set3 w wr (0:Int) (.bool false) (0:Int);rw[<-hwz]at KZ hOZ;have HZ:=H_ (δ HB.o hOZ (le_ _) HB.o.size);obtain⟨q0,q1,q2⟩:=KZ.c3;clear KZ hOZ HQ HK;go_wp2;simp only[<-hwz];clear hwz;refine a_ (v:=.tuple #[.agg #[(0:Int),.bool false,(0:Int)],.bool false]) (by simp[results,results213,go_sem,q0,q1,q2]) rfl ⟨⟨0,false,0⟩,false,rfl,HZ.o,?_,?_⟩
   ·rw[HN.o];rfl
   ·intro m' x h
    rw[HN.o]at h;cases h
def zjd:Value->Nat
 | .slice _ n _=>n
 | _=>0
theorem zgw(a b:List Mv):mvs (a++b)=mvs a++mvs b:=by simp[mvs]
def zb5(B:Nat)(w wr:World)(vm vo:Value)(ms:List Mv)(x:List Int):Prop:=
 Below B w wr/\Ι B wr 67 wr vm ms/\∃ lo hi,SlI lo hi wr vo x/\hi<=wr.heap.size/\∀ g,vm.ownBlock=some g->g<lo\/hi<=g
theorem zb5.below(h:zb5 B w wr vm vo ms x)(hB:B<=wr.heap.size)(hb:Below wr wr w'):zb5 B w w' vm vo ms x:=by
 obtain⟨h1,h2,lo,hi,h3,h4,h5⟩:=h;exact⟨h1.trans (hb.mono hB),zg2 (h2.below hb (le_ _)) hb.size,lo,hi,h3.below hb h4,x_ h4 hb.size,h5⟩
theorem zb5.rd(h:zb5 B w wr vm vo ms x):RdI wr vo x:=by
 obtain⟨_,_,lo,hi,h3,h4,_⟩:=h;exact zd5 h3 h4
theorem zb5.step {v4:Value} {m:Mv}(h:zb5 B w w2 vm vo ms x)(hB:B<=w2.heap.size)(hb:Below w2 w2 w3)(ho:γ w2 w3 3 w3 v3 y)
  (h4:Own 3 B w4 67 w4 v4 (ms.length+1) (mvs ms++zap m)) (hg:(w3.alloc (.cells (zap m).toArray 67)).grownBy w4 vm.ownBlock) (hl:v4.ownBlock=vm.ownBlock\/v4.ownBlock=some (w3.heap.size+1)) :
  zb5 B w w4 v4 v3 (ms++[m]) y:=by
 obtain⟨h1,h2,_⟩:=h;have hs:=hg.size;have hs3:(w3.alloc (.cells (zap m).toArray 67)).heap.size=w3.heap.size+1:=by simp
 have hs2:=hb.size;have hlt:=Own.lt h2;refine⟨?_,?_,w2.heap.size,w3.heap.size,?_,by omega,λg hg'=>?_⟩
 ·have h5:Below B w (w3.alloc (.cells (zap m).toArray 67)):=(h1.trans (hb.mono hB)).alloc (by omega) _
  refine⟨hg.os.trans h5.os,hg.tape.trans h5.tape,hg.output.trans h5.output,x_ h5.size hs,λi hi=>?_⟩;rw[hg.block i (by omega) (λe=>by have:=hlt i e.symm;omega)];exact h5.block i hi
 ·unfold Ι
  rw[i_,zgw]
  simpa [mvs] using h4
 ·have h6:SlI w2 w3 (w3.alloc (.cells (zap m).toArray 67)) v3 y:=zog ho.sl _
  obtain⟨a,cap,e1,e2,e3,e4,e5,e6⟩:=h6;refine⟨a,cap,e1,e2,e3,e4,e5,λi hi=>?_⟩;obtain⟨b,off,f1,f2,f3,f4,f5⟩:=e6 i hi;refine⟨b,off,f1,f2,f3,C_ f4 hs,?_⟩;rw[X_ (w:=w3.alloc (.cells (zap m).toArray 67)) (a:=p_ b (off+i)) (hg.block b f4 (λe=>by have:=hlt b e.symm;omega))];exact f5
 ·rcases hl with e|e
  ·rw[e]at hg'
   have:=hlt g hg';exact .inl (by omega)
  ·rw[e]at hg'
   injection hg' with hg';exact .inr (by omega)
theorem zt5 {o:Obj}(h:zb5 B w w2 vm vo ms x)(ho:γ w2 w3 3 w3 v3 y)(hg:(w3.alloc o).grownBy w4 vm.ownBlock)(hB:B<=w2.heap.size):
  γ B w4 3 w4 v3 y:=by
 have hlt:=Own.lt h.2.1;have hs:=hg.size;have hs3:(w3.alloc o).heap.size=w3.heap.size+1:=by simp
 have h1:=(Own.alloc ho o).1
 have h2:=World.ownsRow.kept h1 hg (by
  cases hb:v3.ownBlock with
  | none=>exact .inl rfl
  | some g=>
   refine .inr λe=>?_
   have h3:=(Own.lt ho g hb).1;have h4:=hlt g e.symm;omega)
 exact zbh ⟨h2,λg hg'=>by have:=(Own.lt ho g hg').2;omega⟩ hB (le_ _)
theorem zj9(m:Mv):∀ u∈zap m,u.oneCell'=true:=by
 intro u hu;simp[zap]at hu;rcases hu with rfl|rfl|rfl<;>rfl
def RetVV(P:Value->Value->World->Prop)(e:Ending)(w':World):Prop:=∃ a b,e=.returned (.tuple #[a,b])/\P a b w'
theorem zt1(ve:Value)(e:List Int)(w:World)(hE:zao w)(hx:RdI w ve e)(hv:μ e=true):
  Calls prog 187 #[ve] w (RetVV λa b w'=>zb5 w w w' a b (zaf e).1 (zaf e).2/\γ w w' 3 w' b (zaf e).2):=by
 have hl40:=(zdi hv).2;have hsb:=zi7 _ e (le_ _);have HX:=H_ hx;have HE:=H_ hE;have HV:=H_ hv;obtain⟨ea,ecap,rfl,_⟩:=hx.open;clear hx hE hv
 go_enter func187,ntmps187
 go_wp2_with fail
 refine(zc9 _ _ _ e _ HX.o (by omega)).mono ?_;rintro e1 w1 ⟨v1,rfl,hb1,ho1⟩;have HB1:=H_ hb1;have HO1:=H_ ho1;obtain⟨a1,c1,rfl,_⟩:=ι ho1;clear hb1 ho1;go_wp2;go_loopw [4,5] (λvm vo wr=>∃ (ms:List Mv) (x:List Int),ms.length+x.length<=e.length/\Q_ (zb5 w w wr vm vo ms x/\γ w wr 3 wr vo x/\μ x=true/\zaf e=(ms++(zaf x).1,(zaf x).2))) (λ_ vo _=>zjd vo)
 case atStart=>exact⟨[],e,by simp,H_ ⟨⟨HB1.o,Ξ _ _ _ _ _,w.heap.size,w1.heap.size,HO1.o.sl,le_ _,λg hg=>by cases hg⟩,HO1.o,HV.o,by simp⟩⟩
 case round=>
  obtain⟨ms,x,hlen,HQ⟩:=hrel;obtain⟨oa,oc,rfl,_⟩:=ι HQ.o.2.1;obtain⟨na,nc,rfl,_⟩:=ι HQ.o.1.2.1;have hB:=HQ.o.1.1.size;have HR:=H_ HQ.o.1.rd;go_wp2_with fail
  refine(zww _ x wr (HE.o.below HQ.o.1.1) HR.o HQ.o.2.2.1).mono ?_;rintro e2 w2 ⟨m,ok,rfl,hb2,rfl,hm⟩;have HS2:=H_ (HQ.o.1.below hB hb2);have HO2:=H_ (HQ.o.2.1.below hb2 (le_ _));have HKX:=H_ HQ.o.2.2.1;have HSM:=H_ HQ.o.2.2.2;have hs2:=hb2.size;have hB2:w<=w2.heap.size:=by omega
  have⟨w3,hw3⟩:=xa_ w2 #[.int .i64 m.which,.bool m.back,.int .i64 m.at_] 67;have hb3:Below w2 w2 w3:=by rw[hw3];exact(B_ _ _).alloc (le_ _) _
  have KM:=H_ (show Blk w2 (.cells #[.int .i64 m.which,.bool m.back,.int .i64 m.at_] 67) w3 by rw[hw3];exact θ w2 _);have HS3:=H_ (HS2.o.below hB2 hb3);have HO3:=H_ (HO2.o.below hb3 hs2);have hs3:=hb3.size;have HW3:=H_ hw3;clear hb2 hb3 hw3 HQ HR;cases hf:zbo x with
  | none=>
   have hsn:=zj7 hf;have HFIN:=H_ (show zaf e=(ms,x) by rw[HSM.o,hsn];simp);clear hf hm hsn;simp only[ap_];go_wp2;simp only[<-HW3.o]
   go_ret2
   refine⟨_,_,rfl,?_,?_⟩
   ·rw[HFIN.o];exact HS3.o
   ·rw[HFIN.o];exact zg2 HO3.o (by omega)
  | some p=>
   obtain⟨m',y⟩:=p;obtain rfl:=hm m' y hf;obtain⟨hmv,hbk,hyl,hky⟩:=zgp hf;have hsm:=zjz hf;have HFIN:=H_ (show zaf e=((ms++[m])++(zaf y).1,(zaf y).2) by rw[HSM.o,hsm];simp);have HKY:=H_ hky;have HMV:=H_ hmv;have⟨k0,k1,k2⟩:=KM.o.c3;clear hf hm hsm hky hmv hbk;simp only[ak_];go_wp2_with (rw[<-HW3.o])
   refine(zl8 _ x m w3 (HE.o.below HS3.o.1) HS3.o.rd HKX.o).mono ?_;rintro e4 w4 ⟨v4,x4,rfl,hb4,hres⟩;rw[HMV.o]at hres;obtain⟨rfl,ho4⟩:=hres;have HS4:=H_ (HS3.o.below (by omega) hb4);have KM4:=KM.kb hb4;have HB4:=H_ hb4;have HO4:=H_ ho4;have hs4:=hb4.size;obtain⟨ya,yc,rfl,_⟩:=ι ho4;clear hb4 ho4 k0 k1 k2 KM;have⟨k0,k1,k2⟩:=KM4.o.c3;have HOM:=H_ (show Own 3 w w4 67 w4 (.slice na ms nc) ms.length (mvs ms) from HS4.o.2.1);go_wp2_with (at_builtin;go_loud (refine za9 w4 rfl _ _ 29 rfl 67 (.agg #[(0:Int),.bool false,(0:Int)]) 3 24 underlying29 zd0 rfl (by decide) (by decide) rfl HOM.o 1 (zap m) rfl rfl (zj9 m) rfl (by omega) (by omega) ?_))
   intro v5 w5 ho5 hg5 hl5 _;have HS5:=H_ (zb5.step (m:=m) HS3.o (by omega) HB4.o HO4.o ho5 hg5 hl5);have HOY:=H_ (zt5 HS3.o HO4.o hg5 (by omega));obtain⟨za,zc,rfl,_⟩:=ι ho5;clear ho5 hg5 hl5 k0 k1 k2;go_wp2;go_roundw
   case rel=>exact⟨ms++[m],y,by simp;omega,H_ ⟨HS5.o,HOY.o,HKY.o,HFIN.o⟩⟩
   case measure=>simp[zjd];omega
theorem zw8(w:World):Calls prog 155 #[] w λe w'=>e=.returned (.slice (some ⟨w,0,none⟩) 11 11)/\w'=w.alloc (.cells zey 3):=by
 go_enter func155,ntmps155
 go_wp2;go_ret;exact⟨rfl,rfl⟩
theorem Own.form {sz:Nat} {xs:List Value}(h:Own sz lo hi e w v n xs):∃ a k c,v=.slice a k c:=by
 obtain⟨a,c,h,_⟩:=ι h;exact⟨a,n,c,h⟩
def zf7:Value->Nat
 | .bool true=>0
 | _=>1
def Ω(e:List Int):List Mv:=if μ e then (zaf e).1 else []
theorem z02(ve:Value)(e:List Int)(w:World)(hx:RdI w ve e)(hm:e.length<=1048576):
  Calls prog 102 #[ve] w (η λv w'=>Below w w w'/\Ι w w' 67 w' v (Ω e)):=by
 have HX:=H_ hx;obtain⟨ea,ecap,rfl,_⟩:=hx.open;have⟨w0,hw0⟩:=xa_ w #[] 67;have hb0:Below w w w0:=by rw[hw0];exact(B_ _ _).alloc (le_ _) _
 have hs0:w0=w.heap.size+1:=by rw[hw0];simp
 have HO0:Q_ (Ι w w0 67 w0 (.slice (some ⟨w,0,none⟩) 0 0) []):=by rw[hw0];exact H_ (zg2 (π 3 67 w [] 0 (by omega) rfl) (by simp))
 have HB0:=H_ hb0;have HX0:=H_ (zhp HX.o hb0 (le_ _));have HW0:=H_ hw0;clear hx hb0 hw0
 go_enter func102,ntmps102
 go_wp2;simp only[<-HW0.o];go_loopw [3,4] (λvm vo wr=>∃ (ms:List Mv) (x:List Int),x.length<=1048576/\ms.length<=40/\Q_ (zb5 w w wr vm vo ms x/\((μ e=true/\μ x=true/\ms.length+x.length<=e.length/\zaf e=(ms++(zaf x).1,(zaf x).2))\/(μ e=false/\ms=[]/\x=e)))) (λ_ vo _=>zjd vo)
 case atStart=>
  refine⟨[],e,hm,by simp,H_ ⟨⟨HB0.o,HO0.o,0,w.heap.size,HX0.o,by omega,λg hg=>?_⟩,?_⟩⟩
  ·simp[Value.ownBlock]at hg
   omega
  ·cases hk:μ e
   ·exact .inr ⟨rfl,rfl,rfl⟩
   ·exact .inl ⟨rfl,rfl,by simp,by simp⟩
 case round=>
  obtain⟨ms,x,hxl,hml,HQ⟩:=hrel;have HR:=H_ HQ.o.1.rd;obtain⟨oa,oc,rfl,_⟩:=HR.o.open;obtain⟨na,nc,rfl,_⟩:=ι HQ.o.1.2.1;have hB:=HQ.o.1.1.size;go_wp2_with fail
  refine(zby _ _ _ x _ HR.o hxl).mono ?_;rintro e1 wx ⟨rfl,rfl⟩;rcases HQ.o.2 with⟨hke,hkx,hlen,hsm⟩|⟨hke,rfl,rfl⟩
  ·rw[hkx]
   have hl40:=(zdi hkx).2;have HKE:=H_ hke;have HKX:=H_ hkx;have HSM:=H_ hsm;have HS:=H_ HQ.o.1;have HF:Q_ (zbo x=zbv x (zcs x 0)):=H_ rfl;clear hke hkx hsm HQ HR HX0 HO0 HB0;go_wp2;go_loopw [3,4,5,6] (λvm vo fd i wr=>∃ a:Nat,i=.int .i64 a/\((fd=.bool false/\vm=.slice na ms nc/\vo=.slice oa x oc/\a<=x.length/\Q_ (zb5 w w wr vm vo ms x/\zbo x=zbv x (zcs x a)))\/(fd=.bool true/\a<=41/\∃ m y,Q_ (zb5 w w wr vm vo (ms++[m]) y/\zbo x=some (m,y))))) (λ_ _ fd i _=>zf7 fd*(42-(intOf i).toNat))
   case atStart=>exact⟨0,rfl,.inl ⟨rfl,rfl,rfl,by omega,H_ ⟨HS.o,HF.o⟩⟩⟩
   case round=>
    obtain⟨a,rfl,⟨rfl,rfl,rfl,ha,HI⟩|⟨rfl,ha,m,y,HI⟩⟩:=hrel
    ·by_cases hlt:a<x.length
     ·(have HFA:=H_ (HI.o.2.trans (by rw[zoq x a hlt])));(have hsz:=HI.o.1.1.size;have⟨w1,hw1⟩:=xa_ wr zey 3;have hb1:Below wr wr w1:=by rw[hw1];exact(B_ _ _).alloc (le_ _) _);(have⟨gE,hgE⟩:=ex_ wr.heap.size;have HKE:=H_ (show Blk gE (.cells zey 3) w1 by rw[hw1,hgE];exact θ wr _);have HS1:=H_ (HI.o.1.below hsz hb1);have HW1:=H_ hw1;have HG:=H_ hgE;clear hb1 hw1 hgE HI;go_wp2_with (go_at_call 155;refine(zw8 _).mono ?_;rintro e2 wx2 ⟨rfl,rfl⟩;simp only[<-HW1.o,<-HG.o]));go_loopw [3,4,5,8] (λvm vo fd i wr=>∃ j:Nat,i=.int .i64 j/\((fd=.bool false/\vm=.slice na ms nc/\vo=.slice oa x oc/\j<=11/\Q_ (zb5 w w wr vm vo ms x/\Blk gE (.cells zey 3) wr/\zbo x=zbv x ((zcy a).drop j++zcs x (a+1))))\/(fd=.bool true/\j<=12/\∃ m y,Q_ (zb5 w w wr vm vo (ms++[m]) y/\zbo x=some (m,y))))) (λ_ _ fd i _=>zf7 fd*(13-(intOf i).toNat))
      case atStart=>exact⟨0,rfl,.inl ⟨rfl,rfl,rfl,by omega,H_ ⟨HS1.o,HKE.o,HFA.o⟩⟩⟩
      case round=>
       obtain⟨j,rfl,⟨rfl,rfl,rfl,hj,HJ⟩|⟨rfl,hj,m,y,HJ⟩⟩:=hrel
       ·(have HSJ:=H_ HJ.o.1);have hszj:=HSJ.o.1.size;have HEJ:=H_ HJ.o.2.1;by_cases hjl:j<11
        ·(have HFJ:=H_ (HJ.o.2.2.trans (by rw[znp a j hjl];rfl:_=zbv x (⟨((zc2[j]'hjl:Nat):Int),false,(a:Nat)⟩ :: ((zcy a).drop (j+1)++zcs x (a+1))))));(have hcell:wr.cell? (p_ gE j)=some (.int .i64 ((zc2[j]'hjl:Nat):Int)):=(HEJ.o.cell j).trans (zm4 j hjl);generalize (zc2[j]'hjl)=n at HFJ hcell;have⟨w2,hw2⟩:=xa_ wr #[.int .i64 (n:Nat),.bool false,.int .i64 (a:Nat)] 67;have hb2:Below wr wr w2:=by rw[hw2];exact(B_ _ _).alloc (le_ _) _);(have KM:=H_ (show Blk wr (.cells #[.int .i64 (n:Nat),.bool false,.int .i64 (a:Nat)] 67) w2 by rw[hw2];exact θ wr _);have HS2:=H_ (HSJ.o.below hszj hb2);have HE2:=HEJ.kb hb2;have hs2:=HS2.o.1.size;have HW2:=H_ hw2;have⟨k0,k1,k2⟩:=KM.o.c3;clear hb2 hw2 HJ;go_wp2_with (rw[<-HW2.o]));refine(zl3 _ x ⟨n,false,a⟩ w2 HS2.o.rd hxl).mono ?_;rintro e3 w3 ⟨v3,b3,rfl,hb3,rfl,ho3⟩;have HB3:=H_ hb3;have hs3:=hb3.size;have HS3:=H_ (HS2.o.below hs2 hb3);have HE3:=HE2.kb hb3;have KM3:=KM.kb hb3;obtain⟨ya,yc,rfl,_⟩:=ι ho3;clear hb3 hcell HSJ HEJ HE2 KM k0 k1 k2;cases hmv:Ν x ⟨n,false,a⟩ with
         | none=>
          (have HN:=H_ (HFJ.o.trans (by rw[zbv,hmv]:_=zbv x ((zcy a).drop (j+1)++zcs x (a+1))));clear hmv ho3;simp only[ap_];go_wp2;go_roundw);(case rel=>exact⟨j+1,by go_num,.inl ⟨rfl,rfl,rfl,by omega,H_ ⟨HS3.o,HE3.o,HN.o⟩⟩⟩);case measure=>simp[intOf,zf7];omega
         | some y=>
          rw[hmv]at ho3;have HN:=H_ (HFJ.o.trans (by rw[zbv,hmv]:_=some ((⟨n,false,a⟩:Mv),y)));have HO3:=H_ (show γ w2 w3 3 w3 (.slice ya y yc) y from ho3);have⟨m0,m1,m2⟩:=KM3.o.c3;have HOM:=H_ (show Own 3 w w3 67 w3 (.slice na ms nc) ms.length (mvs ms) from HS3.o.2.1);clear hmv ho3;simp only[ak_,N_];go_wp2_with (at_builtin;go_loud (refine za9 w3 rfl _ _ 29 rfl 67 (.agg #[(0:Int),.bool false,(0:Int)]) 3 24 underlying29 zd0 rfl (by decide) (by decide) rfl HOM.o 1 (zap ⟨n,false,a⟩) rfl rfl (zj9 _) rfl (by omega) (by omega) ?_))
          intro v5 w5 ho5 hg5 hl5 _;have HS5:=H_ (zb5.step (m:=⟨n,false,a⟩) HS2.o (by omega) HB3.o HO3.o ho5 hg5 hl5);obtain⟨za,zc,rfl,_⟩:=ι ho5;clear ho5 hg5 hl5 m0 m1 m2;go_wp2;go_roundw
          (case rel=>exact⟨j+1,by go_num,.inr ⟨rfl,by omega,⟨n,false,a⟩,y,H_ ⟨HS5.o,HN.o⟩⟩⟩);case measure=>simp[intOf,zf7];omega
        ·(obtain rfl:j=11:=by omega);(have HN:=H_ HJ.o.2.2;rw[show (zcy a).drop 11=[] from rfl,J_]at HN;clear HJ HEJ;go_wp2;go_roundw);(case rel=>exact⟨a+1,by go_num,.inl ⟨rfl,rfl,rfl,by omega,H_ ⟨HSJ.o,HN.o⟩⟩⟩);case measure=>simp[intOf,zf7];omega
       ·(obtain⟨pa,pn,pc,rfl⟩:=Own.form HJ.o.1.2.1);obtain⟨qa,qc,rfl,_⟩:=HJ.o.1.rd.open;by_cases hjl:j<11
        ·go_wp2
         go_roundw
         (case rel=>exact⟨a+1,by go_num,.inr ⟨rfl,by omega,m,y,HJ⟩⟩);case measure=>simp[intOf,zf7];omega
        ·go_wp2
         go_roundw
         (case rel=>exact⟨a+1,by go_num,.inr ⟨rfl,by omega,m,y,HJ⟩⟩);case measure=>simp[intOf,zf7];omega
     ·(obtain rfl:a=x.length:=by omega);have HN:=H_ HI.o.2;rw[zqt x _ (le_ _)]at HN;have hsn:=zj7 (show zbo x=none from HN.o);have HFIN:=H_ (show Ω e=ms by rw[Ω,HKE.o,l_ rfl,HSM.o,hsn];simp);clear hsn;go_wp2;go_ret;refine η.mk _ rfl ⟨HI.o.1.1,?_⟩;rw[HFIN.o];exact HI.o.1.2.1
    ·(obtain⟨pa,pn,pc,rfl⟩:=Own.form HI.o.1.2.1);(obtain⟨qa,qc,rfl,_⟩:=HI.o.1.rd.open;obtain⟨hmv,hbk,hyl,hky⟩:=zgp HI.o.2;have hsm:=zjz HI.o.2;have HFIN:=H_ (show zaf e=((ms++[m])++(zaf y).1,(zaf y).2) by rw[HSM.o,hsm];simp);have HKY:=H_ hky;have hml2:(ms++[m]).length=ms.length+1:=by simp);(have he40:=(zdi HKE.o).2;clear hmv hky hsm hbk;by_cases hlt:a<y.length)
     all_goals (
      go_wp2;go_roundw
      (case rel=>exact⟨ms++[m],y,by omega,by omega,H_ ⟨HI.o.1,.inl ⟨HKE.o,HKY.o,by omega,HFIN.o⟩⟩⟩);case measure=>simp[zjd];omega)
  ·rw[hke]
   have HOUT:=H_ (show Ω x=[] by simp[Ω,hke]);clear hke;go_wp2;go_ret;refine η.mk _ rfl ⟨HQ.o.1.1.alloc hB _,?_⟩;rw[HOUT.o];exact zbh (π 3 67 _ [] 0 (by omega) rfl) hB (by simp)
theorem zm1(e:List Int):(Ω e).length<=40:=by
 unfold Ω
 split
 ·rename_i h
  have:=zi7 _ e (le_ _);have:=(zdi h).2;omega
 ·simp
theorem zsv(ve:Value)(e:List Int)(w:World)(hE:zao w)(hx:RdI w ve e)(hm:e.length<=1048576):
  Calls prog 150 #[ve] w (η λv w'=>Below w w w'/\Ι w w' 67 w' v (Ω e)):=by
 have HX:=H_ hx;have HE:=H_ hE;obtain⟨ea,ecap,rfl,_⟩:=hx.open;clear hx hE;cases hkv:μ e
 ·have HR:=H_ (show Ω e=[] by simp[Ω,hkv])
  go_enter func150,ntmps150
  go_wp2_with fail
  refine(zdd _ _ _ e _ HX.o hm).mono ?_;rintro e1 w1 ⟨rfl,rfl⟩;rw[hkv];go_wp2;go_ret;exact η.mk _ rfl ⟨B_ _ _,by rw[HR.o];exact Ξ _ _ _ _ _⟩
 ·have HR:=H_ (show Ω e=(zaf e).1 by simp[Ω,hkv])
  have HKV:=H_ hkv
  go_enter func150,ntmps150
  go_wp2_with fail
  refine(zdd _ _ _ e _ HX.o hm).mono ?_;rintro e1 w1 ⟨rfl,rfl⟩;rw[hkv];clear hkv;go_wp2_with fail
  refine(zt1 _ e _ HE.o HX.o HKV.o).mono ?_;rintro e2 w2 ⟨va,vb,rfl,hs,ho⟩;have HS:=H_ hs;obtain⟨na,nc,rfl,_⟩:=ι hs.2.1;obtain⟨oa,oc,rfl,_⟩:=ι ho;clear hs ho;go_wp2;go_ret;exact η.mk _ rfl ⟨HS.o.1,by rw[HR.o];exact HS.o.2.1⟩
structure Ac where
 kind:Int
 step:Mv
 count:Int
deriving DecidableEq
def zAc:Ac:=⟨0,⟨0,false,0⟩,0⟩
def zgu(a:Ac):List Value:=[.int .i64 a.kind,.int .i64 a.step.which,.bool a.step.back,.int .i64 a.step.at_,.int .i64 a.count]
def zMv(m:Mv):Bool:=(m.which==0)&&(!m.back)&&(m.at_==0)
def Χ(a:Ac):Bool:=if a.kind==0 then a.count==0 else if a.kind==1 then zMv a.step else if a.kind==2 then zMv a.step&&(a.count==0) else false
theorem zod(a:Ac)(w:World):
  Calls prog 131 #[.agg #[.int .i64 a.kind,.int .i64 a.step.which,.bool a.step.back,.int .i64 a.step.at_,.int .i64 a.count]] w λe w'=>e=.returned (.bool (Χ a))/\Below w w w':=by
 obtain⟨k,⟨p,b,q⟩,c⟩:=a;have hb:Q_ (∀ o,Below w w (w.alloc o)):=H_ λo=>(B_ _ _).alloc (le_ _) _
 cases h0:k==0
 ·cases h1:k==1
  ·cases h2:k==2
   ·go_enter func131,ntmps131
    go_wp2;go_ret;exact⟨ξ (by simp[Χ,h0,h1,h2]),hb.o _⟩
   ·cases h3:p==0
    ·go_enter func131,ntmps131
     go_wp2;go_ret;exact⟨ξ (by simp[Χ,zMv,h0,h1,h2,h3]),hb.o _⟩
    ·cases b
     ·cases h4:q==0
      ·go_enter func131,ntmps131
       go_wp2;go_ret;exact⟨ξ (by simp[Χ,zMv,h0,h1,h2,h3,h4]),hb.o _⟩
      ·go_enter func131,ntmps131
       go_wp2;go_ret;exact⟨ξ (by simp[Χ,zMv,h0,h1,h2,h3,h4]),hb.o _⟩
     ·go_enter func131,ntmps131
      go_wp2;go_ret;exact⟨ξ (by simp[Χ,zMv,h0,h1,h2,h3]),hb.o _⟩
  ·cases h3:p==0
   ·go_enter func131,ntmps131
    go_wp2;go_ret;exact⟨ξ (by simp[Χ,zMv,h0,h1,h3]),hb.o _⟩
   ·cases b
    ·cases h4:q==0
     ·go_enter func131,ntmps131
      go_wp2;go_ret;exact⟨ξ (by simp[Χ,zMv,h0,h1,h3,h4]),hb.o _⟩
     ·go_enter func131,ntmps131
      go_wp2;go_ret;exact⟨ξ (by simp[Χ,zMv,h0,h1,h3,h4]),hb.o _⟩
    ·go_enter func131,ntmps131
     go_wp2;go_ret;exact⟨ξ (by simp[Χ,zMv,h0,h1,h3]),hb.o _⟩
 ·go_enter func131,ntmps131
  go_wp2;go_ret;exact⟨ξ (by simp[Χ,h0]),hb.o _⟩
theorem zq4(a:Ac)(w:World):
  Calls prog 100 #[.agg #[.int .i64 a.kind,.int .i64 a.step.which,.bool a.step.back,.int .i64 a.step.at_,.int .i64 a.count]] w λe w'=>e=.returned (.bool (Χ a))/\Below w w w':=by
 obtain⟨k,⟨p,b,q⟩,c⟩:=a;have hb:Q_ (∀ o,Below w w (w.alloc o)):=H_ λo=>(B_ _ _).alloc (le_ _) _
 cases h0:k==0
 ·cases h1:k==1
  ·cases h2:k==2
   ·go_enter func100,ntmps100
    go_wp2;go_ret;exact⟨ξ (by simp[Χ,h0,h1,h2]),hb.o _⟩
   ·cases h3:p==0
    ·go_enter func100,ntmps100
     go_wp2;go_ret;exact⟨ξ (by simp[Χ,zMv,h0,h1,h2,h3]),hb.o _⟩
    ·cases b
     ·cases h4:q==0
      ·go_enter func100,ntmps100
       go_wp2;go_ret;exact⟨ξ (by simp[Χ,zMv,h0,h1,h2,h3,h4]),hb.o _⟩
      ·cases h5:c==0
       ·go_enter func100,ntmps100
        go_wp2;go_ret;exact⟨ξ (by simp[Χ,zMv,h0,h1,h2,h3,h4,h5]),hb.o _⟩
       ·go_enter func100,ntmps100
        go_wp2;go_ret;exact⟨ξ (by simp[Χ,zMv,h0,h1,h2,h3,h4,h5]),hb.o _⟩
     ·go_enter func100,ntmps100
      go_wp2;go_ret;exact⟨ξ (by simp[Χ,zMv,h0,h1,h2,h3]),hb.o _⟩
  ·cases h3:p==0
   ·go_enter func100,ntmps100
    go_wp2;go_ret;exact⟨ξ (by simp[Χ,zMv,h0,h1,h3]),hb.o _⟩
   ·cases b
    ·cases h4:q==0
     ·go_enter func100,ntmps100
      go_wp2;go_ret;exact⟨ξ (by simp[Χ,zMv,h0,h1,h3,h4]),hb.o _⟩
     ·go_enter func100,ntmps100
      go_wp2;go_ret;exact⟨ξ (by simp[Χ,zMv,h0,h1,h3,h4]),hb.o _⟩
    ·go_enter func100,ntmps100
     go_wp2;go_ret;exact⟨ξ (by simp[Χ,zMv,h0,h1,h3]),hb.o _⟩
 ·go_enter func100,ntmps100
  go_wp2;go_ret;exact⟨ξ (by simp[Χ,h0]),hb.o _⟩
def acs(l:List Ac):List Value:=l.flatMap zgu
theorem z0y(l:List Ac):(acs l).length=l.length*5:=by
 induction l with
 | nil=>rfl
 | cons m r ih=>simp only[acs,cn_,i_] at *;rw[ih];simp[zgu];omega
theorem zxg(l:List Ac):∀ (i:Nat) (h:i<l.length),(acs l)[i*5]?=some (.int .i64 l[i].kind)/\(acs l)[i*5+1]?=some (.int .i64 l[i].step.which)/\(acs l)[i*5+2]?=some (.bool l[i].step.back)/\(acs l)[i*5+3]?=some (.int .i64 l[i].step.at_)/\(acs l)[i*5+4]?=some (.int .i64 l[i].count):=by
 induction l with
 | nil=>intro i h;simp at h
 | cons m r ih=>
  intro i h;cases i with
  | zero=>simp[acs,zgu]
  | succ i=>
   have hi:i<r.length:=by simpa using h
   obtain⟨h1,h2,h3,h4,h5⟩:=ih i hi
   have e:∀ j,(acs (m :: r))[(i+1)*5+j]?=(acs r)[i*5+j]?:=by
    intro j;have:(acs (m :: r))=zgu m++acs r:=by simp[acs]
    rw[this,an_ (by simp[zgu];omega)]
    congr 1
    simp[zgu];omega
   refine⟨?_,?_,?_,?_,?_⟩
   ·rw[show (i+1)*5=(i+1)*5+0 by omega,e 0];simpa using h1
   ·rw[e 1];simpa using h2
   ·rw[e 2];simpa using h3
   ·rw[e 3];simpa using h4
   ·rw[e 4];simpa using h5
def SlA(lo hi:Nat)(w:World)(v:Value)(l:List Ac):Prop:=Sl 5 lo hi w v l.length (acs l)
def zhv(lo hi e:Nat)(w:World)(v:Value)(l:List Ac):Prop:=Own 5 lo hi e w v l.length (acs l)
theorem zhv.sl {l:List Ac}(h:zhv lo hi e w v l):SlA lo hi w v l:=zce h
theorem zhv.below {xs:List Ac}(h:zhv lo hi e w v xs)(hb:Below B w w')(hB:hi<=B):zhv lo hi e w' v xs:=zeu h hb hB
theorem SlA.below {xs:List Ac}(h:SlA lo hi w v xs)(hb:Below B w w')(hB:hi<=B):SlA lo hi w' v xs:=zdg h hb hB
theorem SlA.outside {xs:List Ac}(h:SlA lo hi w v xs)(hb:β lo' hi' w w')(hd:hi<=lo'\/hi'<=lo):SlA lo hi w' v xs:=zhf h hb hd
theorem SlA.wide {xs:List Ac}(h:SlA lo hi w v xs)(h1:lo'<=lo)(h2:hi<=hi'):SlA lo' hi' w v xs:=zgr h h1 h2
theorem SlA.shape {xs:List Ac}(h:SlA lo hi w v xs):∃ a cap,v=.slice a xs cap/\xs.length<=cap/\cap<=maxLen:=τ h
theorem SlA.get {cap:Nat} {a:Option Addr} {l:List Ac}(h:SlA lo hi w (.slice a n cap) l)(i:Nat)(hi':i<l.length):
  ∃ b off,a=some ⟨b,off,none⟩/\lo<=b/\b<hi/\b<w.heap.size/\w.cell? (p_ b (off+i*5))=some (.int .i64 l[i].kind)/\w.cell? (p_ b (off+i*5+1))=some (.int .i64 l[i].step.which) /\
   w.cell? (p_ b (off+i*5+2))=some (.bool l[i].step.back)/\w.cell? (p_ b (off+i*5+3))=some (.int .i64 l[i].step.at_)/\w.cell? (p_ b (off+i*5+4))=some (.int .i64 l[i].count):=by
 obtain⟨a',cap',e,_,_,_,_,hc⟩:=h;injection e with e1 _ _;subst e1;obtain⟨g0,g1,g2,g3,g4⟩:=zxg l i hi';have hl:=z0y l;obtain⟨b,off,e,h1,h2,h3,h4⟩:=hc (i*5) (by omega)
 have hh:∀ j,j<5->w.cell? (p_ b (off+i*5+j))=(acs l)[i*5+j]?:=by
  intro j hj;obtain⟨b',off',e',_,_,_,h4'⟩:=hc (i*5+j) (by omega);rw[e]at e';injection e' with e';injection e' with e1 e2;subst e1 e2;rw[<-h4'];congr 2;omega
 refine⟨b,off,e,h1,h2,h3,?_,?_,?_,?_,?_⟩
 ·rw[h4,g0]
 ·rw[hh 1 (by omega),g1]
 ·rw[hh 2 (by omega),g2]
 ·rw[hh 3 (by omega),g3]
 ·rw[hh 4 (by omega),g4]
end Go.Proofs.YtfnnhimopokpnaaGreatDoor
