/- Lemmas for this seat; no condition. -/
import Derived.Test.YtfnnhimopokpnaaGreatDoorHCAI
namespace Go.Proofs.YtfnnhimopokpnaaGreatDoor
open Go.RowKit Proofs.Tryz
set_option maxRecDepth 100000
set_option maxHeartbeats 0
set_option linter.all false
variable {g lo hi c c' lx ux hi' B:Nat} {w w' wr w2:World} {e T:TypeId} {x0 x1 x2 x3 y0 y1 y2 y3 v:Value} {X:Dsk}
theorem β.grown(h:Below w w w'):β g (g+1) w w':=β.of_below h (le_ _)
theorem zzp {n cap:Nat} {a:Option Addr} {ms:List Mv}(h:SlM lo hi w (.slice a n cap) ms):n<=cap:=by
 obtain⟨a',c',e,h1,_⟩:=h.shape;injection e with _ e1 e2;omega
theorem Blk.fld1(h:Blk g (.cells #[x0,x1,x2,x3] e (0,0)) w)(y:Value):Blk g (.cells #[x0,y,x2,x3] e (0,0)) (w.setCell (p_ g 1) y):=by
 have h':w.heap[g]?=_:=h
 show (w.setCell (p_ g 1) y).heap[g]?=_
 simp[World.setCell,V_,h']
theorem Blk.fld2(h:Blk g (.cells #[x0,x1,x2,x3] e (0,0)) w)(y:Value):Blk g (.cells #[x0,x1,y,x3] e (0,0)) (w.setCell (p_ g 2) y):=by
 have h':w.heap[g]?=_:=h
 show (w.setCell (p_ g 2) y).heap[g]?=_
 simp[World.setCell,V_,h']
theorem Blk.fld3(h:Blk g (.cells #[x0,x1,x2,x3] e (0,0)) w)(y:Value):Blk g (.cells #[x0,x1,x2,y] e (0,0)) (w.setCell (p_ g 3) y):=by
 have h':w.heap[g]?=_:=h
 show (w.setCell (p_ g 3) y).heap[g]?=_
 simp[World.setCell,V_,h']
theorem β.drewn(h:β lo hi w w'):β lo hi w w'.drew:=⟨h.os,h.tape,h.output,h.size,h.block⟩
theorem zqp(D:Dsk)(A:Ac):(Χ D A).1.size<=180:=by
 cases h:Θ D
 ·simp[Χ,h,Dsk.none,Dsk.size]
 ·exact znv (zl3 A h)
theorem z2z {xs ys:List Int}(h:xs.length<=60)(k:ys.length<=50):(zb1 xs ys).size<=180:=by
 unfold zb1
 split
 ·simp[Dsk.size];omega
 ·simp[Dsk.none,Dsk.size]
theorem z3b(xs ys:List Int):(zb1 xs ys).size<=180:=by
 unfold zb1
 split
 ·rename_i hc
  simp only[j_]at hc;have h1:=(zcs hc.1).2;have h2:=(zcs hc.2).2;simp[Dsk.size];omega
 ·simp[Dsk.none,Dsk.size]
theorem z18 {F G:List Int} {ms:List Mv}(h:ms.length<=180):(⟨(zb1 F G).first,(zb1 F G).goal,ms,(υ F ms).getD []⟩:Dsk).size<=400:=by
 have h1:(zb1 F G).first.length<=40/\(zb1 F G).goal.length<=40:=by
  unfold zb1
  split
  ·rename_i hc
   simp only[j_]at hc;exact⟨(zcs hc.1).2,(zcs hc.2).2⟩
  ·simp[Dsk.none]
 have h2:((υ F ms).getD []).length<=40:=by
  cases hp:υ F ms with
  | none=>simp
  | some x=>exact(zcs (zkd hp)).2
 simp only[Dsk.size];omega
structure zjl(g c gd:Nat)(w wr:World):Prop where
 o:β g (g+1) w wr
 rd:Rd g wr c
 res:Blk w (.cells #[(),(),(),()] 31) wr
 desk:∃ (y0 y1 y2 y3:Value) (D:Dsk) (l h:Nat),Blk gd (.cells #[y0,y1,y2,y3] 31) wr/\Υ l h wr y0 y1 y2 y3 D/\D.size<=400/\g+1<=l/\w.heap.size+1<=l/\h<=wr/\(gd<l\/h<=gd)
def GotD(g c:Nat)(wr:World)(gx:Nat)(x0 x1 x2 x3:Value)(X:Dsk)(lx ux:Nat)(wx:World):Prop:=
 Blk gx (.cells #[x0,x1,x2,x3] 31) wx/\Υ lx ux wx x0 x1 x2 x3 X/\X.size<=180/\wr.heap.size<=gx/\wr.heap.size<=lx/\(gx<lx\/ux<=gx)/\ux<=wx/\β g (g+1) wr wx/\Rd g wx c
theorem gotD1(o:Υ lx ux w2 x0 x1 x2 x3 X)(hX:X.size<=180)(h:β g (g+1) wr w2)(r:Rd g w2 c')(hc:c'<=c)(h1:wr.heap.size<=lx)(h2:ux<=w2):
  GotD g c wr w2 x0 x1 x2 x3 X lx ux (w2.alloc (.cells #[x0,x1,x2,x3] 31)):=
 ⟨κ _ _,o.below (η _ _) h2,hX,h.size,h1,.inr h2,by simp only[ν];omega,h.trans (β.grown (η _ _)),(r.al _).mono hc⟩
theorem gotD2 {gx: Nat}(k : Blk gx (.cells #[y0, y1, y2, y3] 31) w2)(o : Υ lx ux w2 x0 x1 x2 x3 X)(hX : X.size <= 180)(h : β g (g + 1) wr w2)(r : Rd g w2 c')(hc : c' <= c)(h1 : wr.heap.size <= lx)(h2 : ux <= w2.heap.size)(h3 : wr.heap.size <= gx)(h4 : g < gx)(h5 : gx < lx := by omega):
  GotD g c wr gx x0 x1 x2 x3 X lx ux ((((w2.setCell (p_ gx 0) x0).setCell (p_ gx 1) x1).setCell (p_ gx 2) x2).setCell (p_ gx 3) x3):=
 ⟨k.set4 _ _ _ _,o.outside (β.set4 _ _ _ _ _ _) (.inr (by omega)),hX,h3,h1,.inl h5,by have:=(β.set4 gx w2 x0 x1 x2 x3).size;omega,h.fresh (β.set4 _ _ _ _ _ _) h3,(r.outside (β.set4 _ _ _ _ _ _) h4).mono hc⟩
theorem zx3 {gd l h:Nat}(k:Blk gd (.cells #[y0,y1,y2,y3] 31) w2)(o:Υ l h w2 x0 x1 x2 x3 X)(hX:X.size<=400)(ho:β g (g+1) w w2)(r:Rd g w2 c')(kt:Blk w (.cells #[(),(),(),()] 31) w2)
  (hc:c'<=c) (h1:g<l) (h2:w.heap.size<l) (h3:h<=w2) (h4:gd<l) (h5:w.heap.size<gd) (h6:g<gd) :
  zjl g c gd w ((((w2.setCell (p_ gd 0) x0).setCell (p_ gd 1) x1).setCell (p_ gd 2) x2).setCell (p_ gd 3) x3):=
 have O:=β.set4 gd w2 x0 x1 x2 x3
 ⟨ho.fresh O (by omega),(r.outside O h6).mono hc,kt.outside O (.inl h5),_,_,_,_,X,l,h,k.set4 _ _ _ _,o.outside O (.inr h4),hX,h1,h2,J_ h3 O.size,.inl h4⟩
theorem zw6(g c:Nat)(n:Int)(w:World)(h:Rd g w c)(hc:c<=100000)(hn:n<=1000):
  Calls prog 46 #[.pointer (q_ g 0),.int .i64 n] w (zdl λa b c__ d w'=>∃ D:Dsk,Ι w w' w' a b c__ d D/\D.size<=1000/\β g (g+1) w w'/\Rd g w' (c+10000)):=by
 have hg:=h.lt;have⟨w0,hw0⟩:=xa_ w #[(),(),(),()] 31;obtain⟨hb0,KT_,hs0⟩:=Μ hw0;have KT:=H_ KT_;have HR:=H_ (h.below hb0 hg);have HO:=H_ ((β.refl g (g+1) w).below hb0 (le_ _));clear h hb0 KT_
 go_enter func46,ntmps46
 go_wp2_with fail
 simp only[<-hw0];clear hw0;refine(zuu g c 0 _ HR.o (by omega) (by omega)).mono ?_;rintro e w1 ⟨v1,rfl,xs,ox_,lx_,h_,r_⟩;have hs_w1:=h_.size;replace KT:=H_ (KT.o.outside h_ (.inr (by omega)));replace HO:=H_ (HO.o.trans h_);replace HR:=H_ r_;clear h_ r_;obtain⟨xa,xc,rfl,_,_⟩:=ο ox_;have OX:=H_ ox_;clear ox_
 go_upto_if 16 with fail
 go_cut [5] (λv wx=>∃ (za:Option Addr) (zc:Nat) (zs:List Int) (l h:Nat),v=.slice za zs zc/\zs.length<=16/\Q_ (SlI l h wx (.slice za zs zc) zs/\g+1<=l/\w.heap.size<=l/\h<=wx/\β g (g+1) w wx/\Rd g wx (c+2000)/\Blk w (.cells #[(),(),(),()] 31) wx))
 case first=>
  by_cases hl:16<xs.length
  ·go_wp2_with fail
   go_meet
   exact⟨_,_,[10,16,19,21],_,_,rfl,by simp,H_ ⟨(γ.sl (show γ w1 (w1+1) 3 _ _ _ from ς 1 3 w1 (ints [10,16,19,21]) 4 (by omega) rfl)),by omega,by omega,by simp,HO.o.below (η _ _) (by omega),HR.o.al _,KT.o.al⟩⟩
  ·go_wp2_with fail
   go_meet
   exact⟨_,_,xs,_,_,rfl,by omega,H_ ⟨OX.o,by omega,by omega,le_ _,HO.o,HR.o,KT.o⟩⟩
 case rest=>
  obtain⟨za,zc,zs,l1,h1,rfl,hz16,HQ⟩:=hcut;obtain⟨w2,rfl⟩:=ex_ wc;obtain⟨ox_,hl1,hl1',hh1,ho_,hr_,kt_⟩:=HQ.o;clear HQ OX HO HR KT;have OX:=H_ ox_;have HO:=H_ ho_;have HR:=H_ hr_;have KT:=H_ kt_;have hsz2:=kt_.lt;clear ox_ ho_ hr_ kt_;go_wp2_with fail
  refine(zl2 g _ 2 0 _ HR.o (by omega) (by omega) (by omega) (by omega)).mono ?_;rintro e w3 ⟨v2,rfl,ys,oy_,ly_,h_,r_⟩;have hs_w3:=h_.size;replace KT:=H_ (KT.o.outside h_ (.inr (by omega)));replace OX:=H_ (OX.o.outside h_ (.inr (by omega)));replace HO:=H_ (HO.o.trans h_);replace HR:=H_ r_;clear h_ r_;obtain⟨ya,yc,rfl,_,_⟩:=ο oy_.sl;have OY:=H_ oy_.sl;clear oy_;have⟨w4,hw_⟩:=xa_ w3 #[] 67;obtain⟨hb_,K_,hs_w4⟩:=Μ hw_;replace HR:=H_ (HR.o.below hb_ HR.o.lt);have h_:=β.of_below (lo:=g) (hi:=g+1) hb_ (le_ _);replace KT:=H_ (KT.o.outside h_ (.inr (by omega)));replace OX:=H_ (OX.o.outside h_ (.inr (by omega)));replace OY:=H_ (OY.o.outside h_ (.inr (by omega)));replace HO:=H_ (HO.o.trans h_);clear h_ hb_
  have OM:Q_ (SlM w3 (w3+1) w4 (.slice (q_ w3 0) 0 0) []):=by
   rw[hw_];exact H_ (zcq (show Own 3 w3 (w3+1) 67 _ _ _ _ from ς 3 67 w3 [] 0 (by omega) rfl))
  go_wp2_with fail
  simp only[<-hw_];clear hw_ K_;refine(zju _ _ _ _ _ _ zs ys w4 OX.o OY.o (by omega) (by omega) (by omega) (by omega)).mono ?_;rintro e w5 ⟨y0,y1,y2,y3,rfl,od_,hb_⟩;replace HR:=H_ (HR.o.below hb_ HR.o.lt);have h_:=β.of_below (lo:=g) (hi:=g+1) hb_ (le_ _);have hs_w5:=h_.size;replace KT:=H_ (KT.o.outside h_ (.inr (by omega)));replace OX:=H_ (OX.o.outside h_ (.inr (by omega)));replace OY:=H_ (OY.o.outside h_ (.inr (by omega)));replace OM:=H_ (OM.o.outside h_ (.inr (by omega)));replace HO:=H_ (HO.o.trans h_);clear h_ hb_;have OD:=H_ od_;clear od_;have hds:=z2z (xs:=zs) (ys:=ys) (by omega) (by omega);have⟨D,hD⟩:=ex_ (zb1 zs ys);rw[<-hD]at OD hds;clear hD OY;obtain⟨p0,r0,p1,r1,p2,r2,p3,r3,i0,i1,i2,i3⟩:=OD.o.open;subst i0 i1 i2 i3;have⟨w6,hw_⟩:=xa_ w5 #[.slice p0 D.first r0,.slice p1 D.goal r1,.slice p2 D.made r2,.slice p3 D.now r3] 31;obtain⟨hb_,K_,hs_w6⟩:=Μ hw_;replace HR:=H_ (HR.o.below hb_ HR.o.lt);have h_:=β.of_below (lo:=g) (hi:=g+1) hb_ (le_ _);replace KT:=H_ (KT.o.outside h_ (.inr (by omega)));replace OX:=H_ (OX.o.outside h_ (.inr (by omega)));replace OM:=H_ (OM.o.outside h_ (.inr (by omega)));replace OD:=H_ (OD.o.outside h_ (.inr (by omega)));replace HO:=H_ (HO.o.trans h_);clear h_ hb_;have KD:=H_ K_;go_wp2_with fail
  simp only[<-hw_];clear hw_ K_;refine(Δ g _ 5 _ HR.o (by omega)).mono ?_;rintro e w7 ⟨q5,rfl,i_,h_,r_⟩;have hs_w7:=h_.size;replace KT:=H_ (KT.o.outside h_ (.inr (by omega)));replace OX:=H_ (OX.o.outside h_ (.inr (by omega)));replace OM:=H_ (OM.o.outside h_ (.inr (by omega)));replace OD:=H_ (OD.o.outside h_ (.inr (by omega)));replace KD:=H_ (KD.o.outside h_ (.inr (by omega)));replace HO:=H_ (HO.o.trans h_);replace HR:=H_ r_;clear h_ r_;obtain⟨i1_,i2_⟩:=i_.lt (by omega);clear i_;obtain⟨k5,rfl⟩:∃ k:Nat,q5=k:=⟨q5.toNat,by omega⟩;have hgu:=KD.o.lt;have hLays:zjl g (c+3000+200*(4-k5)) w5 w w7:=⟨HO.o,HR.o.mono (by omega),KT.o,_,_,_,_,D,_,_,KD.o,OD.o,by omega,by omega,by omega,by omega,by omega⟩;have HL:=H_ hLays;clear hLays OD HO HR KT KD hds;go_wp2_with fail
  go_loopw [7,9] (λmv kv wr=>∃ (j:Nat) (ma:Option Addr) (mc:Nat) (ms:List Mv),mv=.slice ma ms mc/\kv=.int .i64 j/\j<=4/\ms.length<=180/\Q_ (zjl g (c+3000+200*(4-j)) w5 w wr/\SlI l1 h1 wr (.slice za zs zc) zs/\w2<=wr.heap.size/\w5<wr.heap.size/\∃ l2 h2,SlM l2 h2 wr (.slice ma ms mc) ms/\g+1<=l2/\w.heap.size<=l2/\h2<=wr.heap.size/\(w5.heap.size<l2\/h2<=w5.heap.size))) (λ_ k _=>(intOf k).toNat)
  case atStart=>exact⟨k5,_,_,[],rfl,rfl,by omega,by simp,H_ ⟨HL.o,OX.o,by omega,by omega,_,_,OM.o,by omega,by omega,by omega,by omega⟩⟩
  case round=>
   clear HL OX OM;obtain⟨j,ma,mc,ms,rfl,rfl,hj4,hm60,HQ⟩:=hrel;obtain⟨hL_,ox_,hsr,hgr,l2,h2,om_,hl2,hl2',hh2,hd2⟩:=HQ.o;obtain⟨ho_,hr_,kt_,y0,y1,y2,y3,D,l,h,kd_,od_,hds,hl,hl',hh,hdd⟩:=hL_;have HO:=H_ ho_;have HR:=H_ hr_;have KT:=H_ kt_;have KD:=H_ kd_;have OD:=H_ od_;have OX:=H_ ox_;have OM:=H_ om_;clear HQ ho_ hr_ kt_ kd_ od_ ox_ om_;by_cases hpos:0<j
   ·skip
    go_upto_region 10 with fail
    go_cut [10,11] (λp__ q__ wx=>∃ (gx:Nat) (t:Bool) (x0 x1 x2 x3:Value) (X:Dsk) (lx ux:Nat),p__=.pointer (q_ gx 0)/\q__=.bool t/\Q_ (GotD g (c+3000+200*(4-(j-1))) wr gx x0 x1 x2 x3 X lx ux wx))
    case first=>
     (have hg0:=HR.o.lt;have hgs:∀ w':World,β g (g+1) wr w'->w'.cell? (p_ w5 0)=some y0/\w'.cell? (p_ w5 1)=some y1/\w'.cell? (p_ w5 2)=some y2/\w'.cell? (p_ w5 3)=some y3:=λw' ho=>⟨(KD.o.outside ho (.inr (by omega))).cell 0,(KD.o.outside ho (.inr (by omega))).cell 1,(KD.o.outside ho (.inr (by omega))).cell 2,(KD.o.outside ho (.inr (by omega))).cell 3⟩);(have hoA:β g (g+1) wr wr.drew:=(β.refl _ _ _).drewn;have hoB:β g (g+1) wr (wr.alloc (.cells #[(),(),(),()] 31)).drew:=(β.grown (η wr (.cells #[(),(),(),()] 31))).drewn;have hS:=hgs wr (β.refl _ _ _);have hSA:=hgs _ hoA;have hSB:=hgs _ hoB;have hdB:(wr.alloc (.cells #[(),(),(),()] 31)).drew.heap.size=wr.heap.size+1:=ν _ _;have hdA:wr.drew.heap.size=wr.heap.size:=rfl;have HGS:=H_ hgs;clear hgs)
     go_region_held3 (λw'=>w'.cell? (p_ w5 0)=some y0/\w'.cell? (p_ w5 1)=some y1/\w'.cell? (p_ w5 2)=some y2/\w'.cell? (p_ w5 3)=some y3) (first | with_reducible assumption | go_keep) (first
      | (go_at_call 81;refine(znr g _ l h _ _ _ _ D wr.drew (HR.o) (by omega) (OD.o.at.outside hoA (.inr (by omega))) (by omega) hl (by omega)).mono ?_;rintro e1 w1_ ⟨A,rfl,h_,r_⟩;(have hz1:=h_.size);(have ho1:=β.trans hoA h_);(have hS1:=HGS.o _ ho1);(have hSN1:=HGS.o _ (ho1.trans (β.grown (η _ (.cells #[(),(),(),()] 31)))));(have hz1n:(w1_.alloc (.cells #[(),(),(),()] 31)).heap.size=w1_.heap.size+1:=ν _ _);(have R1:=H_ r_);clear h_ r_)
      | (go_at_call 81;refine(znr g _ l h _ _ _ _ D (wr.alloc (.cells #[(),(),(),()] 31)).drew (HR.o.al _) (by omega) (OD.o.at.outside hoB (.inr (by omega))) (by omega) hl (by omega)).mono ?_;rintro e1 w1_ ⟨A,rfl,h_,r_⟩;(have hz1:=h_.size);(have ho1:=β.trans hoB h_);(have hS1:=HGS.o _ ho1);(have hSN1:=HGS.o _ (ho1.trans (β.grown (η _ (.cells #[(),(),(),()] 31)))));(have hz1n:(w1_.alloc (.cells #[(),(),(),()] 31)).heap.size=w1_.heap.size+1:=ν _ _);(have R1:=H_ r_);(have KN:=H_ (hop1 h_ hg0));clear h_ r_)
      | (go_at_call 52;refine(znc l h _ _ _ _ D A w1_ (OD.o.at.outside ho1 (.inr (by omega))) (by omega) (by omega)).mono ?_;rintro e2 w2_ ⟨x0,x1,x2,x3,t,rfl,o_,rfl,hb_⟩;(have hX:=zqp D A);obtain⟨X,tt,hXe⟩:∃ X tt,Χ D A=(X,tt):=⟨_,_,rfl⟩;rw[hXe] at o_ hX ⊢;obtain⟨z0,z1,z2,z3,z4,z5,z6,z7,i0,i1,i2,i3⟩:=o_.open;subst i0 i1 i2 i3;(have hz2:=hb_.size);(have ho2:=β.trans ho1 (β.grown (g:=g) hb_));(have hS2:=HGS.o _ ho2);(have hSN2:=HGS.o _ (ho2.trans (β.grown (η _ (.cells #[(),(),(),()] 31)))));(have hSL:=HGS.o _ (ho2.trans (β.grown (η _ (.cells #[.slice z0 X.first z1,.slice z2 X.goal z3,.slice z4 X.made z5,.slice z6 X.now z7] 31)))));(have hS40:=HGS.o _ (β.fresh ho2 (β.set4 wr w2_ (.slice z0 X.first z1) (.slice z2 X.goal z3) (.slice z4 X.made z5) (.slice z6 X.now z7)) (by omega)));(have hS41:=HGS.o _ (β.fresh ho2 (β.set4 w1_ w2_ (.slice z0 X.first z1) (.slice z2 X.goal z3) (.slice z4 X.made z5) (.slice z6 X.now z7)) (by omega)));(have R2:=H_ (R1.o.below hb_ R1.o.lt));(try (have kn:=KN.o.below hb_ (by omega);(obtain⟨c0,c1,c2,c3⟩:=kn.c4);(obtain⟨f0,f1,f2,f3⟩:=kn.f4);(have KM:=H_ kn);clear kn));(have O2:=H_ o_);clear hb_ o_ hXe)
      | (go_at_call 52;refine(znc l h _ _ _ _ D A (w1_.alloc (.cells #[(),(),(),()] 31)) (OD.o.at.outside (ho1.trans (β.grown (η _ _))) (.inr (by omega))) (by omega) (by omega)).mono ?_;rintro e2 w2_ ⟨x0,x1,x2,x3,t,rfl,o_,rfl,hb_⟩;(have hX:=zqp D A);obtain⟨X,tt,hXe⟩:∃ X tt,Χ D A=(X,tt):=⟨_,_,rfl⟩;rw[hXe] at o_ hX ⊢;obtain⟨z0,z1,z2,z3,z4,z5,z6,z7,i0,i1,i2,i3⟩:=o_.open;subst i0 i1 i2 i3;(have hz2:=hb_.size);(have ho2:=β.trans (ho1.trans (β.grown (η _ _))) (β.grown (g:=g) hb_));(have hS2:=HGS.o _ ho2);(have hSN2:=HGS.o _ (ho2.trans (β.grown (η _ (.cells #[(),(),(),()] 31)))));(have hSL:=HGS.o _ (ho2.trans (β.grown (η _ (.cells #[.slice z0 X.first z1,.slice z2 X.goal z3,.slice z4 X.made z5,.slice z6 X.now z7] 31)))));(have hS40:=HGS.o _ (β.fresh ho2 (β.set4 wr w2_ (.slice z0 X.first z1) (.slice z2 X.goal z3) (.slice z4 X.made z5) (.slice z6 X.now z7)) (by omega)));(have hS41:=HGS.o _ (β.fresh ho2 (β.set4 w1_ w2_ (.slice z0 X.first z1) (.slice z2 X.goal z3) (.slice z4 X.made z5) (.slice z6 X.now z7)) (by omega)));(have kn:=(κ w1_ (.cells #[(),(),(),()] 31)).below hb_ (by omega));(have R2:=H_ ((R1.o.al _).below hb_ (R1.o.al (.cells #[(),(),(),()] 31)).lt));(obtain⟨c0,c1,c2,c3⟩:=kn.c4);(obtain⟨f0,f1,f2,f3⟩:=kn.f4);(have KM:=H_ kn);clear kn;(have O2:=H_ o_);clear hb_ o_ hXe))
     all_goals (
      go_wp2_with fail
      go_meet
      with_reducible first
       | exact⟨_,_,_,_,_,_,_,_,_,rfl,rfl,H_ (gotD1 O2.o hX ho2 R2.o (by omega) (by omega) (by omega))⟩
       | exact⟨_,_,_,_,_,_,_,_,_,rfl,rfl,H_ (gotD2 KM.o O2.o hX ho2 R2.o (by omega) (by omega) (by omega) (by omega) (by omega))⟩)
    case rest=>
     (obtain⟨gx,t,x0,x1,x2,x3,X,lx,ux,rfl,rfl,HQ⟩:=hcut;obtain⟨wx,rfl⟩:=ex_ wc;obtain⟨kx_,oxd_,hXs,hgx,hlx,hdx,hux,h_,r_⟩:=HQ.o;have KX:=H_ kx_;have OXD:=H_ oxd_;have hs_x:=h_.size;have hgxu:=kx_.lt;replace KT:=H_ (KT.o.outside h_ (.inr (by omega)));replace KD:=H_ (KD.o.outside h_ (.inr (by omega)));replace OD:=H_ (OD.o.outside h_ (.inr (by omega)));replace OX:=H_ (OX.o.outside h_ (.inr (by omega)));replace OM:=H_ (OM.o.outside h_ (.inr (by omega)));replace HO:=H_ (HO.o.trans h_);replace HR:=H_ r_;clear HQ kx_ oxd_ h_ r_;obtain⟨u0,v0,u1,v1,u2,v2,u3,v3,i0,i1,i2,i3⟩:=OXD.o.open;subst i0 i1 i2 i3;have m60:X.made.length<=180:=by unfold Dsk.size at hXs;omega);cases t
     ·go_wp2
      go_roundw
      (case rel=>exact⟨j-1,_,_,ms,rfl,by first | go_num | (congr 1;omega),by omega,by omega,H_ ⟨⟨HO.o,HR.o,KT.o,y0,y1,y2,y3,D,l,h,KD.o,OD.o,hds,hl,hl',by omega,hdd⟩,OX.o,by omega,by omega,l2,h2,OM.o,hl2,hl2',by omega,hd2⟩⟩);case measure=>simp[intOf];omega
     ·skip
      (have⟨a0,a1,a2,a3⟩:=KX.o.c4;have⟨b0,b1,b2,b3⟩:=KD.o.c4;have⟨f0,f1,f2,f3⟩:=KD.o.f4;have⟨wz,hwz⟩:=x4_ wx w5 (.slice u0 X.first v0) (.slice u1 X.goal v1) (.slice u2 X.made v2) (.slice u3 X.now v3);have OZ:=β.set4 w5 wx (.slice u0 X.first v0) (.slice u1 X.goal v1) (.slice u2 X.made v2) (.slice u3 X.now v3);have KZ:=KD.o.set4 (.slice u0 X.first v0) (.slice u1 X.goal v1) (.slice u2 X.made v2) (.slice u3 X.now v3);rw[<-hwz]at OZ KZ;have e2:=(KX.o.outside OZ (.inr (by omega))).cell 2;have HKZ:=H_ KZ;have hs_z:=OZ.size;have OXZ:=H_ (OXD.o.outside OZ (.inr (by omega)));have HNW:=H_ (a_ (HO.o.fresh OZ (by omega)) (a_ (HR.o.outside OZ (by omega)) (a_ (KT.o.outside OZ (.inl (by omega))) (OX.o.outside OZ (.inl (by omega))))));have HWZ:=H_ hwz;clear hwz OZ KZ;go_upto_region 13 with(rw[<-HWZ.o]))
      try rw[<-HWZ.o]
      clear a0 a1 a2 a3 b0 b1 b2 b3 f0 f1 f2 f3 HWZ;go_wp2;go_roundw
      (case rel=>exact⟨j-1,_,_,X.made,rfl,by first | go_num | (congr 1;omega),by omega,by omega,H_ ⟨⟨HNW.o.1,HNW.o.2.1,HNW.o.2.2.1,_,_,_,_,X,lx,ux,HKZ.o,OXZ.o,by omega,by omega,by omega,by omega,by omega⟩,HNW.o.2.2.2,by omega,by omega,lx,ux,OXZ.o.at.made,by omega,by omega,by omega,by omega⟩⟩);case measure=>simp[intOf];omega
   ·skip
    (obtain rfl:j=0:=by omega);go_wp2_with fail
    refine(Δ g _ 2 _ HR.o (by omega)).mono ?_;rintro e w8 ⟨q14,rfl,i_,h_,r_⟩;have hs_w8:=h_.size;replace KT:=H_ (KT.o.outside h_ (.inr (by omega)));replace KD:=H_ (KD.o.outside h_ (.inr (by omega)));replace OD:=H_ (OD.o.outside h_ (.inr (by omega)));replace OX:=H_ (OX.o.outside h_ (.inr (by omega)));replace OM:=H_ (OM.o.outside h_ (.inr (by omega)));replace HO:=H_ (HO.o.trans h_);replace HR:=H_ r_;clear h_ r_;clear i_;have hcap:=zzp OM.o
    go_upto_if 44 with fail
    go_cut [] (λwx=>Q_ (zjl g (c+4100) w5 w wx))
    case first=>
     cases hq14:q14==0
     ·go_wp2_with fail
      go_meet
      exact H_ ⟨HO.o,HR.o.mono (by omega),KT.o,y0,y1,y2,y3,D,l,h,KD.o,OD.o,hds,hl,hl',by omega,hdd⟩
     ·skip
      (have⟨k_0,k_1,k_2,k_3⟩:=KD.o.c4;go_wp2_with fail);clear k_0 k_1 k_2 k_3;refine(zju _ _ _ _ _ _ zs D.now w8 OX.o OD.o.at.now (by omega) (by omega) (by omega) (by unfold Dsk.size at hds;omega)).mono ?_;rintro e w9 ⟨a0,a1,a2,a3,rfl,on_,hb_⟩;replace HR:=H_ (HR.o.below hb_ HR.o.lt);have h_:=β.of_below (lo:=g) (hi:=g+1) hb_ (le_ _);have hs_w9:=h_.size;replace KT:=H_ (KT.o.outside h_ (.inr (by omega)));replace KD:=H_ (KD.o.outside h_ (.inr (by omega)));replace OD:=H_ (OD.o.outside h_ (.inr (by omega)));replace OX:=H_ (OX.o.outside h_ (.inr (by omega)));replace OM:=H_ (OM.o.outside h_ (.inr (by omega)));replace HO:=H_ (HO.o.trans h_);clear h_ hb_;have ON:=H_ on_;clear on_;have hns:=z3b zs D.now;have⟨N,hN⟩:=ex_ (zb1 zs D.now);rw[<-hN]at ON hns;clear hN;obtain⟨p0,r0,p1,r1,p2,r2,p3,r3,i0,i1,i2,i3⟩:=ON.o.open;subst i0 i1 i2 i3;have⟨b_0,b_1,b_2,b_3⟩:=KD.o.c4;have⟨f_0,f_1,f_2,f_3⟩:=KD.o.f4;have⟨wz,hwz⟩:=x4_ w9 w5 (.slice p0 N.first r0) (.slice p1 N.goal r1) (.slice p2 N.made r2) (.slice p3 N.now r3);have OZ:=β.set4 (w5.heap.size) w9 (.slice p0 N.first r0) (.slice p1 N.goal r1) (.slice p2 N.made r2) (.slice p3 N.now r3);have KZ:=KD.o.set4 (.slice p0 N.first r0) (.slice p1 N.goal r1) (.slice p2 N.made r2) (.slice p3 N.now r3);rw[<-hwz]at OZ KZ;have hs_wz:=OZ.size;have KDZ:=H_ KZ;have ODZ:=H_ (ON.o.outside OZ (.inr (by omega)));have HOZ:=H_ (HO.o.fresh OZ (by omega));have HRZ:=H_ (HR.o.outside OZ (by omega));have KTZ:=H_ (KT.o.outside OZ (.inl (by omega)));have OMZ:=H_ (OM.o.outside OZ (by omega));have HWZ:=H_ hwz;clear OZ KZ hwz;go_upto_region 16 with(rw[<-HWZ.o])
      try rw[<-HWZ.o]
      clear b_0 b_1 b_2 b_3 f_0 f_1 f_2 f_3 HWZ KD OD HO HR KT OM OX ON;have KD:=H_ KDZ.o;have OD:=H_ ODZ.o;have HO:=H_ HOZ.o;have HR:=H_ HRZ.o;have KT:=H_ KTZ.o;have OM:=H_ OMZ.o;clear KDZ ODZ HOZ HRZ KTZ OMZ;go_wp2_with fail
      refine(Δ g _ 2 _ HR.o (by omega)).mono ?_;rintro e w10 ⟨q16,rfl,i_,h_,r_⟩;have hs_w10:=h_.size;replace KT:=H_ (KT.o.outside h_ (.inr (by omega)));replace KD:=H_ (KD.o.outside h_ (.inr (by omega)));replace OD:=H_ (OD.o.outside h_ (.inr (by omega)));replace OM:=H_ (OM.o.outside h_ (.inr (by omega)));replace HO:=H_ (HO.o.trans h_);replace HR:=H_ r_;clear h_ r_;clear i_;cases hq16:q16==0
      ·go_wp2_with fail
       go_meet
       exact H_ ⟨HO.o,HR.o.mono (by omega),KT.o,_,_,_,_,N,_,_,KD.o,OD.o,by omega,by omega,by omega,by omega,by omega⟩
      ·skip
       (have hm1:(0:Int)<=(ms.length:Int)+1:=by omega);(have hm1w:IntKind.i64.wrap ((ms.length:Int)+1)=(ms.length:Int)+1:=by simp[IntKind.wrap,IntKind.bits,IntKind.signed];omega);(have hg0:=HR.o.lt;have hgs:∀ w':World,β g (g+1) w10 w'->w'.cell? (p_ w5 0)=some (.slice p0 N.first r0)/\w'.cell? (p_ w5 1)=some (.slice p1 N.goal r1)/\w'.cell? (p_ w5 2)=some (.slice p2 N.made r2)/\w'.cell? (p_ w5 3)=some (.slice p3 N.now r3):=λw' ho=>⟨(KD.o.outside ho (.inr (by omega))).cell 0,(KD.o.outside ho (.inr (by omega))).cell 1,(KD.o.outside ho (.inr (by omega))).cell 2,(KD.o.outside ho (.inr (by omega))).cell 3⟩);(have hoA:β g (g+1) w10 w10.drew:=(β.refl _ _ _).drewn;have hSA:=hgs _ hoA;have HGS:=H_ hgs;clear hgs;go_upto_region 17 with fail)
       go_region_with (first
        | (go_at_call 72;refine(Δ g _ _ _ (by first | with_reducible exact HR.o | with_reducible exact HR.o.drew) (by omega)).mono ?_;rintro e11 w11 ⟨q17,rfl,i_,h_,r_⟩;obtain⟨i1_,i2_⟩:=i_.lt (by omega);clear i_;obtain⟨j17,rfl⟩:∃ k:Nat,q17=k:=⟨q17.toNat,by omega⟩;(have hj17:j17<=ms.length:=by omega);(have hjI:(j17:Int)<=(mc:Int):=by omega);(have hj0:(0:Int)<=(j17:Int):=by omega);(have ho11:=β.trans hoA h_);(have hS11:=HGS.o _ ho11);(have hs_11:=ho11.size);(have R11:=H_ r_);clear h_ r_)
        | (go_at_call 34;refine(z0j _ _ _ _ _ _ _ _ _ N (ms.take j17) w11 (OD.o.at.outside ho11 (.inr (by omega))) (by omega) (by omega) ((OM.o.outside ho11 (.inr (by omega))).front j17 hj17) (by omega) (by simp;omega)).mono ?_;rintro e12 w12 ⟨x0,x1,x2,x3,rfl,o_,hb_⟩;(have hX:=z18 (F:=N.first) (G:=N.goal) (ms:=ms.take j17) (by simp;omega));obtain⟨X,hXe⟩:∃ X:Dsk,X=⟨(zb1 N.first N.goal).first,(zb1 N.first N.goal).goal,ms.take j17,(υ N.first (ms.take j17)).getD []⟩:=⟨_,rfl⟩;rw[<-hXe] at o_ hX;clear hXe;obtain⟨z0,z1,z2,z3,z4,z5,z6,z7,i0,i1,i2,i3⟩:=o_.open;subst i0 i1 i2 i3;(have ho12:=β.trans ho11 (β.grown (g:=g) hb_));(have kd:=zaz KD.o ho12 (.inr (by omega)));(obtain⟨c0,c1,c2,c3⟩:=kd.c4);(obtain⟨f0,f1,f2,f3⟩:=kd.f4);(have KM:=H_ kd);clear kd;(have hs_12:=hb_.size);(have R12:=H_ (R11.o.below hb_ R11.o.lt));(have O12:=H_ o_);clear o_ hb_))
       all_goals (
        go_wp2_with fail
        go_meet
        with_reducible exact H_ (zx3 KM.o O12.o hX (HO.o.trans ho12) R12.o (KT.o.outside ho12 (.inr (by omega))) (by omega) (by omega) (by omega) (by omega) (by omega) (by omega) (by omega)))
    case rest=>
     (obtain⟨w20,rfl⟩:=ex_ wc;clear HO HR KT KD OD OX OM;obtain⟨ho_,hr_,kt_,y0,y1,y2,y3,D,l,h,kd_,od_,hds,hl,hl',hh,hdd⟩:=hcut.o;have HO:=H_ ho_;have HR:=H_ hr_;have KT:=H_ kt_;have KD:=H_ kd_;have OD:=H_ od_;have hgdl:w5<w20.heap.size:=kd_.lt;clear hcut ho_ hr_ kt_ kd_ od_;have⟨hwg,hggd⟩:w+1<=w5.heap.size/\g<w5:=by omega);clear hs_w1 lx_ ly_ hl1 hl1' hh1 hsz2 hz16 hs_w3 hs_w4 hs_w5 hs_w6 hs_w7 i1_ i2_ hgu hs0 hm60 hsr hgr hl2 hl2' hh2 hd2 hs_w8 hcap;obtain⟨p0,r0,p1,r1,p2,r2,p3,r3,i0,i1,i2,i3⟩:=OD.o.open;subst i0 i1 i2 i3;go_wp2_with fail
     refine(zhs g _ n _ HR.o (by omega) (by omega)).mono ?_;rintro e w21 ⟨b18,rfl,h_,r_⟩;have hs_w21:=h_.size;replace KT:=H_ (KT.o.outside h_ (.inr (by omega)));replace KD:=H_ (KD.o.outside h_ (.inr (by omega)));replace OD:=H_ (OD.o.outside h_ (.inr (by omega)));replace HO:=H_ (HO.o.trans h_);replace HR:=H_ r_;clear h_ r_;cases b18
     ·skip
      (have⟨b_0,b_1,b_2,b_3⟩:=KD.o.c4;have⟨t_0,t_1,t_2,t_3⟩:=KT.o.c4;have⟨g_0,g_1,g_2,g_3⟩:=KT.o.f4;have⟨wz,hwz⟩:=x4_ w21 w (.slice p0 D.first r0) (.slice p1 D.goal r1) (.slice p2 D.made r2) (.slice p3 D.now r3);have OZ:=β.set4 w w21 (.slice p0 D.first r0) (.slice p1 D.goal r1) (.slice p2 D.made r2) (.slice p3 D.now r3);have KZ:=KT.o.set4 (.slice p0 D.first r0) (.slice p1 D.goal r1) (.slice p2 D.made r2) (.slice p3 D.now r3);rw[<-hwz]at OZ KZ;obtain⟨z0,z1,z2,z3⟩:=KZ.c4;have HE:=H_ (a_ (HO.o.fresh OZ (by omega)) ((HR.o.outside OZ (by omega)).mono (show _<=c+10000 by omega)));have HF:=H_ ((OD.o.at).outside OZ (.inr (by omega)));have hs_z:=OZ.size;clear KZ OZ;go_wp2_with fail);simp only[<-hwz];clear hwz;refine d_ (v:=.agg #[(.slice p0 D.first r0),(.slice p1 D.goal r1),(.slice p2 D.made r2),(.slice p3 D.now r3)]) (by simp[results,results46,go_sem,z0,z1,z2,z3]) rfl (zdl.mk _ _ _ _ rfl ⟨D,HF.o.wide (by omega) (by omega),by omega,HE.o⟩)
     ·skip
      go_wp2_with fail
      refine(Δ g _ 4 _ HR.o (by omega)).mono ?_;rintro e w22 ⟨q19,rfl,i_,h_,r_⟩;have hs_w22:=h_.size;replace KT:=H_ (KT.o.outside h_ (.inr (by omega)));replace KD:=H_ (KD.o.outside h_ (.inr (by omega)));replace OD:=H_ (OD.o.outside h_ (.inr (by omega)));replace HO:=H_ (HO.o.trans h_);replace HR:=H_ r_;clear h_ r_;clear i_;obtain⟨l1_,u1_,l2_,u2_,l3_,u3_,l4_,u4_,o1_,o2_,o3_,o4_,r1_,r2_,r3_,r4_,d12,d13,d14,d23,d24,d34⟩:=OD.o.ranges;have W1:=H_ o1_.sl;have W2:=H_ o2_.sl;have W3:=H_ o3_.sl;have W4:=H_ o4_.sl;have P3:=H_ o3_;have P4:=H_ o4_;clear o1_ o2_ o3_ o4_;have hsz:D.first.length+D.goal.length+D.made.length+D.now.length<=400:=hds;by_cases e0:q19=0
      ·subst e0
       (have⟨b_0,b_1,b_2,b_3⟩:=KD.o.c4;have⟨f_0,f_1,f_2,f_3⟩:=KD.o.f4;go_upto_region 27 with(at_builtin;refine zp2 w22 rfl _ _ _ (by rfl) 3 (0:Int) 1 8 underlying22 τ rfl (by omega) (by omega) (by rfl) P4.o 1 (ints [21]) (by rfl) rfl (by intro u hu;simp[ints] at hu;subst hu;rfl) rfl (by omega) (by omega) ?_;intro v23 w23 lo23 hi23 hown23 hrange23 hout23;obtain⟨a23,c23,rfl⟩:=θ hown23;(have kd23:=zaz KD.o hout23 (by omega));(have d_3:=kd23.cell 3);(have e_3:=kd23.free 3);(have H23:=H_ (a_ kd23 (a_ hown23 (a_ hrange23 hout23))));clear kd23 hown23 hrange23 hout23));clear d_3 e_3;obtain⟨_,hown23,hrange23,hout23⟩:=H23.o;clear H23;have hs_23:=hout23.size;replace KD:=H_ (KD.o.outside hout23 (by omega));replace KT:=H_ (KT.o.outside hout23 (.inl (by omega)));replace HO:=H_ (HO.o.fresh hout23 (by omega));replace HR:=H_ (HR.o.outside hout23 (by omega));replace W1:=H_ (W1.o.outside hout23 (by omega));replace W2:=H_ (W2.o.outside hout23 (by omega));replace W3:=H_ (W3.o.outside hout23 (by omega));replace W4:=H_ (show SlI lo23 hi23 w23 _ (D.now++[21]) from by have h_:=hown23.sl;simpa [SlI,ints] using h_);have⟨hlo23,hhi23,hgd23⟩:w.heap.size+1<=lo23/\hi23<=w23/\(w5.heap.size<lo23\/hi23<=w5):=by omega
       clear hown23 hrange23 hout23 b_0 b_1 b_2 b_3 f_0 f_1 f_2 f_3 P3 P4;have⟨wq,hwq⟩:=ex_ (w23.setCell (p_ w5 3) (.slice a23 (D.now.length+1) c23));have OQ:=β.pute w5 3 w23 (.slice a23 (D.now.length+1) c23);have KQ:=Blk.fld3 KD.o (.slice a23 (D.now.length+1) c23);rw[<-hwq]at OQ KQ;have hs_q:=OQ.size;replace KD:=H_ KQ;replace HO:=H_ (HO.o.fresh OQ (by omega));replace HR:=H_ (HR.o.outside OQ (by omega));replace KT:=H_ (KT.o.outside OQ (.inl (by omega)));replace W1:=H_ (W1.o.outside OQ (by omega));replace W2:=H_ (W2.o.outside OQ (by omega));replace W3:=H_ (W3.o.outside OQ (by omega));replace W4:=H_ (W4.o.outside OQ (by omega));simp only[<-hwq];clear hwq OQ KQ;have⟨b_0,b_1,b_2,b_3⟩:=KD.o.c4;have⟨t_0,t_1,t_2,t_3⟩:=KT.o.c4;have⟨g_0,g_1,g_2,g_3⟩:=KT.o.f4;have⟨wz,hwz⟩:=x4_ wq w (.slice p0 D.first r0) (.slice p1 D.goal r1) (.slice p2 D.made r2) (.slice a23 (D.now.length+1) c23);have OZ:=β.set4 w wq (.slice p0 D.first r0) (.slice p1 D.goal r1) (.slice p2 D.made r2) (.slice a23 (D.now.length+1) c23);have KZ:=KT.o.set4 (.slice p0 D.first r0) (.slice p1 D.goal r1) (.slice p2 D.made r2) (.slice a23 (D.now.length+1) c23);rw[<-hwz]at OZ KZ;obtain⟨z0,z1,z2,z3⟩:=KZ.c4;have HE:=H_ (a_ (HO.o.fresh OZ (by omega)) ((HR.o.outside OZ (by omega)).mono (show _<=c+10000 by omega)));have HF:=H_ (((show Ι (w+1) wq wq (.slice p0 D.first r0) (.slice p1 D.goal r1) (.slice p2 D.made r2) (.slice a23 (D.now.length+1) c23) ⟨D.first,D.goal,D.made,D.now++[21]⟩ from ⟨W1.o.wide (by omega) (by omega),W2.o.wide (by omega) (by omega),W3.o.wide (by omega) (by omega),W4.o.wide (by omega) (by omega)⟩)).outside OZ (.inr (by omega)));have hs_z:=OZ.size;clear KZ OZ;go_wp2_with fail
       simp only[<-hwz];clear hwz;refine d_ (v:=.agg #[(.slice p0 D.first r0),(.slice p1 D.goal r1),(.slice p2 D.made r2),(.slice a23 (D.now.length+1) c23)]) (by simp[results,results46,go_sem,z0,z1,z2,z3]) rfl (zdl.mk _ _ _ _ rfl ⟨⟨D.first,D.goal,D.made,D.now++[21]⟩,HF.o.wide (by omega) (by omega),by simp[Dsk.size];omega,HE.o⟩)
      ·by_cases e1:q19=1
       ·subst e1
        (have⟨b_0,b_1,b_2,b_3⟩:=KD.o.c4;have⟨f_0,f_1,f_2,f_3⟩:=KD.o.f4;have KD22:=KD;have⟨w23,hw_⟩:=xa_ w22 #[] 3;have W5:=H_ (zeg w22).sl;rw[<-hw_]at W5;obtain⟨hb_,K_,hs_23⟩:=Μ hw_;replace HR:=H_ (HR.o.below hb_ HR.o.lt);have hout23:=β.of_below (lo:=g) (hi:=g+1) hb_ (le_ _);replace KD:=H_ (KD.o.outside hout23 (.inr (by omega)));replace KT:=H_ (KT.o.outside hout23 (.inr (by omega)));replace HO:=H_ (HO.o.trans hout23);replace W1:=H_ (W1.o.outside hout23 (.inr (by omega)));replace W3:=H_ (W3.o.outside hout23 (.inr (by omega)));replace W4:=H_ (W4.o.outside hout23 (.inr (by omega)));replace W2:=W5;clear W5 hb_ K_ hout23 b_0 b_1 b_2 b_3 f_0 f_1 f_2 f_3;have H22:=H_ hw_;clear hw_;have k22:=(KD22.o.al (x:=.cells #[] 3));have d_1:=k22.cell 1;have e_1:=k22.free 1;clear k22;go_upto_region 27 with fail);simp only[<-H22.o];clear d_1 e_1 H22 KD22;have⟨wq,hwq⟩:=ex_ (w23.setCell (p_ w5 1) (.slice (q_ w22 0) 0 0));have OQ:=β.pute w5 1 w23 (.slice (q_ w22 0) 0 0);have KQ:=Blk.fld1 KD.o (.slice (q_ w22 0) 0 0);rw[<-hwq]at OQ KQ;have hs_q:=OQ.size;replace KD:=H_ KQ;replace HO:=H_ (HO.o.fresh OQ (by omega));replace HR:=H_ (HR.o.outside OQ (by omega));replace KT:=H_ (KT.o.outside OQ (.inl (by omega)));replace W1:=H_ (W1.o.outside OQ (by omega));replace W2:=H_ (W2.o.outside OQ (by omega));replace W3:=H_ (W3.o.outside OQ (by omega));replace W4:=H_ (W4.o.outside OQ (by omega));simp only[<-hwq];clear hwq OQ KQ;have⟨b_0,b_1,b_2,b_3⟩:=KD.o.c4;have⟨t_0,t_1,t_2,t_3⟩:=KT.o.c4;have⟨g_0,g_1,g_2,g_3⟩:=KT.o.f4;have⟨wz,hwz⟩:=x4_ wq w (.slice p0 D.first r0) (.slice (q_ w22 0) 0 0) (.slice p2 D.made r2) (.slice p3 D.now r3);have OZ:=β.set4 w wq (.slice p0 D.first r0) (.slice (q_ w22 0) 0 0) (.slice p2 D.made r2) (.slice p3 D.now r3);have KZ:=KT.o.set4 (.slice p0 D.first r0) (.slice (q_ w22 0) 0 0) (.slice p2 D.made r2) (.slice p3 D.now r3);rw[<-hwz]at OZ KZ;obtain⟨z0,z1,z2,z3⟩:=KZ.c4;have HE:=H_ (a_ (HO.o.fresh OZ (by omega)) ((HR.o.outside OZ (by omega)).mono (show _<=c+10000 by omega)));have HF:=H_ (((show Ι (w+1) wq wq (.slice p0 D.first r0) (.slice (q_ w22 0) 0 0) (.slice p2 D.made r2) (.slice p3 D.now r3) ⟨D.first,[],D.made,D.now⟩ from ⟨W1.o.wide (by omega) (by omega),W2.o.wide (by omega) (by omega),W3.o.wide (by omega) (by omega),W4.o.wide (by omega) (by omega)⟩)).outside OZ (.inr (by omega)));have hs_z:=OZ.size;clear KZ OZ;go_wp2_with fail
        simp only[<-hwz];clear hwz;refine d_ (v:=.agg #[(.slice p0 D.first r0),(.slice (q_ w22 0) 0 0),(.slice p2 D.made r2),(.slice p3 D.now r3)]) (by simp[results,results46,go_sem,z0,z1,z2,z3]) rfl (zdl.mk _ _ _ _ rfl ⟨⟨D.first,[],D.made,D.now⟩,HF.o.wide (by omega) (by omega),by simp[Dsk.size];omega,HE.o⟩)
       ·by_cases e2:q19=2
        ·subst e2
         (have⟨t_0,t_1,t_2,t_3⟩:=KT.o.c4;have⟨g_0,g_1,g_2,g_3⟩:=KT.o.f4;have⟨wz,hwz⟩:=x4_ w22 w () () () ();have OZ:=β.set4 w w22 () () () ();have KZ:=KT.o.set4 () () () ();rw[<-hwz]at OZ KZ;obtain⟨z0,z1,z2,z3⟩:=KZ.c4;have HE:=H_ (a_ (HO.o.fresh OZ (by omega)) ((HR.o.outside OZ (by omega)).mono (show _<=c+10000 by omega)));have hs_z:=OZ.size;have HF:=H_ (Υ.nils w wz (by omega) wz).at;clear KZ OZ;go_wp2_with fail);simp only[<-hwz];clear hwz;refine d_ (v:=.agg #[(),(),(),()]) (by simp[results,results46,go_sem,z0,z1,z2,z3]) rfl (zdl.mk _ _ _ _ rfl ⟨Dsk.none,HF.o,by simp[Dsk.size,Dsk.none],HE.o⟩)
        ·(have e0':(q19==0)=false:=by simpa using e0);(have e1':(q19==1)=false:=by simpa using e1);(have e2':(q19==2)=false:=by simpa using e2);(have⟨b_0,b_1,b_2,b_3⟩:=KD.o.c4;have⟨f_0,f_1,f_2,f_3⟩:=KD.o.f4;go_upto_region 27 with(at_builtin;refine zp2 w22 rfl _ _ _ (by rfl) 67 (.agg #[(0:Int),.bool false,(0:Int)]) 3 24 underlying29 zd7 rfl (by decide) (by decide) (by rfl) P3.o 1 (zbu (⟨-1,false,0⟩:Mv)) (by rfl) rfl (zis (⟨-1,false,0⟩:Mv)) rfl (by omega) (by omega) ?_;intro v23 w23 lo23 hi23 hown23 hrange23 hout23;obtain⟨a23,c23,rfl⟩:=θ hown23;(have kd23:=zaz KD.o hout23 (by omega));(have d_3:=kd23.cell 2);(have e_3:=kd23.free 2);(have H23:=H_ (a_ kd23 (a_ hown23 (a_ hrange23 hout23))));clear kd23 hown23 hrange23 hout23));clear d_3 e_3;obtain⟨_,hown23,hrange23,hout23⟩:=H23.o;clear H23;have hs_23:=hout23.size;replace KD:=H_ (KD.o.outside hout23 (by omega));replace KT:=H_ (KT.o.outside hout23 (.inl (by omega)));replace HO:=H_ (HO.o.fresh hout23 (by omega));replace HR:=H_ (HR.o.outside hout23 (by omega));replace W1:=H_ (W1.o.outside hout23 (by omega));replace W2:=H_ (W2.o.outside hout23 (by omega));replace W4:=H_ (W4.o.outside hout23 (by omega));replace W3:=H_ (show SlM lo23 hi23 w23 _ (D.made++[⟨-1,false,0⟩]) from by have h_:=hown23.sl;simpa [SlM,mvs] using h_);have⟨hlo23,hhi23,hgd23⟩:w.heap.size+1<=lo23/\hi23<=w23/\(w5.heap.size<lo23\/hi23<=w5):=by omega
         clear hown23 hrange23 hout23 b_0 b_1 b_2 b_3 f_0 f_1 f_2 f_3 P3 P4;have⟨wq,hwq⟩:=ex_ (w23.setCell (p_ w5 2) (.slice a23 (D.made.length+1) c23));have OQ:=β.pute w5 2 w23 (.slice a23 (D.made.length+1) c23);have KQ:=Blk.fld2 KD.o (.slice a23 (D.made.length+1) c23);rw[<-hwq]at OQ KQ;have hs_q:=OQ.size;replace KD:=H_ KQ;replace HO:=H_ (HO.o.fresh OQ (by omega));replace HR:=H_ (HR.o.outside OQ (by omega));replace KT:=H_ (KT.o.outside OQ (.inl (by omega)));replace W1:=H_ (W1.o.outside OQ (by omega));replace W2:=H_ (W2.o.outside OQ (by omega));replace W3:=H_ (W3.o.outside OQ (by omega));replace W4:=H_ (W4.o.outside OQ (by omega));simp only[<-hwq];clear hwq OQ KQ;have⟨b_0,b_1,b_2,b_3⟩:=KD.o.c4;have⟨t_0,t_1,t_2,t_3⟩:=KT.o.c4;have⟨g_0,g_1,g_2,g_3⟩:=KT.o.f4;have⟨wz,hwz⟩:=x4_ wq w (.slice p0 D.first r0) (.slice p1 D.goal r1) (.slice a23 (D.made.length+1) c23) (.slice p3 D.now r3);have OZ:=β.set4 w wq (.slice p0 D.first r0) (.slice p1 D.goal r1) (.slice a23 (D.made.length+1) c23) (.slice p3 D.now r3);have KZ:=KT.o.set4 (.slice p0 D.first r0) (.slice p1 D.goal r1) (.slice a23 (D.made.length+1) c23) (.slice p3 D.now r3);rw[<-hwz]at OZ KZ;obtain⟨z0,z1,z2,z3⟩:=KZ.c4;have HE:=H_ (a_ (HO.o.fresh OZ (by omega)) ((HR.o.outside OZ (by omega)).mono (show _<=c+10000 by omega)));have HF:=H_ (((show Ι (w+1) wq wq (.slice p0 D.first r0) (.slice p1 D.goal r1) (.slice a23 (D.made.length+1) c23) (.slice p3 D.now r3) ⟨D.first,D.goal,D.made++[⟨-1,false,0⟩],D.now⟩ from ⟨W1.o.wide (by omega) (by omega),W2.o.wide (by omega) (by omega),W3.o.wide (by omega) (by omega),W4.o.wide (by omega) (by omega)⟩)).outside OZ (.inr (by omega)));have hs_z:=OZ.size;clear KZ OZ;go_wp2_with fail
         simp only[<-hwz];clear hwz;refine d_ (v:=.agg #[(.slice p0 D.first r0),(.slice p1 D.goal r1),(.slice a23 (D.made.length+1) c23),(.slice p3 D.now r3)]) (by simp[results,results46,go_sem,z0,z1,z2,z3]) rfl (zdl.mk _ _ _ _ rfl ⟨⟨D.first,D.goal,D.made++[⟨-1,false,0⟩],D.now⟩,HF.o.wide (by omega) (by omega),by simp[Dsk.size];omega,HE.o⟩)
theorem zfq.low {lo' e:Nat} {xs:List Ac}(h:zfq lo hi e w v xs)(h1:lo'<=lo)(h2:hi<=hi'):zfq lo' hi' e w v xs:=by
 obtain⟨⟨hl,h3⟩,h4⟩:=h;refine⟨⟨hl,?_⟩,λk hk=>T_ (h4 k hk) h2⟩;rcases h3 with h3|⟨g,cap,cur,e1,e2,e3⟩
 ·exact .inl h3
 ·exact .inr ⟨g,cap,cur,e1,J_ h1 e2,e3⟩
theorem zyq(a:Ac)(w:World):
    c_ 86 #[.agg #[.int .i64 a.kind,.int .i64 a.step.which,.bool a.step.back,.int .i64 a.step.at_,.int .i64 a.count]] w (.string ⟨(zaq a).toArray⟩):=by
  obtain⟨k,m,c⟩:=a;have⟨w0,hw0⟩:=xa_ w #[.int .i64 k,.int .i64 m.which,.bool m.back,.int .i64 m.at_,.int .i64 c] 69;have HB:Q_ (Below w w w0):=by rw[hw0];exact H_ ((B_ _ _).alloc (le_ _) _)
  have K:Q_ (Blk w (.cells #[.int .i64 k,.int .i64 m.which,.bool m.back,.int .i64 m.at_,.int .i64 c] 69) w0):=by rw[hw0];exact H_ (κ w _)
  have⟨c0,c1,c2,c3,c4⟩:=K.o.c5
  go_enter func86,ntmps86
  go_wp2_with fail
  simp only[<-hw0];clear hw0;go_wp2_with fail
  refine(zot ⟨k,m,c⟩ _).mono ?_;rintro e w1 ⟨rfl,hb⟩;clear c0 c1 c2 c3 c4;replace HB:=HB.ts hb;replace K:=K.kb hb;clear hb;have⟨c0,c1,c2,c3,c4⟩:=K.o.c5;cases hN:zaj ⟨k,m,c⟩
  · have HT:=H_ (show zaq ⟨k,m,c⟩=[] by simp[zaq,hN])
    clear hN;go_wp2;go_ret;exact⟨zbw (a:=[]) (by rw[HT.o]),HB.o⟩
  · cases h0:k==0
    · cases h1:k==1
      · have h2:(k==2)=true:=by
          cases h2:k==2
          · simp[zaj,h0,h1,h2] at hN
          · rfl
        have HT:=H_ (show zaq ⟨k,m,c⟩=zed by simp only[zaq,hN,h0,h1];rfl);clear hN;go_wp2;go_ret;exact⟨zbw HT.o.symm,HB.o⟩
      · have h2 : (k == 2) = false := by have h : k = 1 := by simpa using h1
                                         subst h;rfl
        by_cases g1:0<=c
        · by_cases g2:c<=99
          · have HT:=H_ (show zaq ⟨k,m,c⟩=zbq++Η c.toNat by simp only[zaq,hN,h0,h1];simp[g1,g2])
            clear hN;obtain⟨c,rfl⟩:∃ n:Nat,c=n:=⟨c.toNat,by omega⟩;have hc:c<100:=by omega
            (have l1:=zfc c;clear g1;go_wp2_with (first | (go_at_call 88;refine(zsf _ _ hc).mono ?_;rintro e w' ⟨rfl,rfl⟩) | fail));go_ret;exact⟨zra c _ HT.o,HB.o⟩
          · have HT:=H_ (show zaq ⟨k,m,c⟩=[] by simp only[zaq,hN,h0,h1];simp[g2])
            clear hN;go_wp2;go_ret;exact⟨zbw (a:=[]) (by rw[HT.o]),HB.o⟩
        · have HT:=H_ (show zaq ⟨k,m,c⟩=[] by simp only[zaq,hN,h0,h1];simp[g1])
          clear hN;go_wp2;go_ret;exact⟨zbw (a:=[]) (by rw[HT.o]),HB.o⟩
    · have HT:=H_ (show zaq ⟨k,m,c⟩=Γ m by simp only[zaq,hN,h0];rfl)
      clear hN;go_wp2_with fail
      refine(zmx m _).mono ?_;rintro e w2 ⟨rfl,hb⟩;replace HB:=HB.ts hb;clear hb;go_wp2;go_ret;exact⟨zbw HT.o.symm,HB.o⟩
theorem zss(n:Nat)(w:World)(h:n<100):
  c_ 54 #[.int .i64 n] w (.string ⟨(Η n).toArray⟩):=by
 go_enter func54,ntmps54
 go_wp2_with fail
 refine(zmi n _ h).mono ?_;rintro e w1 ⟨rfl,hb⟩;go_wp2;go_ret;exact⟨rfl,hb⟩
theorem zsh(a:Ac)(w:World):
    c_ 82 #[.agg #[.int .i64 a.kind,.int .i64 a.step.which,.bool a.step.back,.int .i64 a.step.at_,.int .i64 a.count]] w (.string ⟨(zaq a).toArray⟩):=by
  obtain⟨k,m,c⟩:=a;have⟨w0,hw0⟩:=xa_ w #[.int .i64 k,.int .i64 m.which,.bool m.back,.int .i64 m.at_,.int .i64 c] 69;have HB:Q_ (Below w w w0):=by rw[hw0];exact H_ ((B_ _ _).alloc (le_ _) _)
  have K:Q_ (Blk w (.cells #[.int .i64 k,.int .i64 m.which,.bool m.back,.int .i64 m.at_,.int .i64 c] 69) w0):=by rw[hw0];exact H_ (κ w _)
  have⟨c0,c1,c2,c3,c4⟩:=K.o.c5
  go_enter func82,ntmps82
  go_wp2_with fail
  simp only[<-hw0];clear hw0;go_wp2_with fail
  refine(zoa ⟨k,m,c⟩ _).mono ?_;rintro e w1 ⟨rfl,hb⟩;clear c0 c1 c2 c3 c4;replace HB:=HB.ts hb;replace K:=K.kb hb;clear hb;have⟨c0,c1,c2,c3,c4⟩:=K.o.c5;cases hN:zaj ⟨k,m,c⟩
  · have HT:=H_ (show zaq ⟨k,m,c⟩=[] by simp[zaq,hN])
    clear hN;go_wp2;go_ret;exact⟨zbw (a:=[]) (by rw[HT.o]),HB.o⟩
  · cases h0:k==0
    · cases h1:k==1
      · have h2:(k==2)=true:=by
          cases h2:k==2
          · simp[zaj,h0,h1,h2] at hN
          · rfl
        have HT:=H_ (show zaq ⟨k,m,c⟩=zed by simp only[zaq,hN,h0,h1];rfl);clear hN;go_wp2;go_ret;exact⟨zbw HT.o.symm,HB.o⟩
      · have h2 : (k == 2) = false := by have h : k = 1 := by simpa using h1
                                         subst h;rfl
        cases g:inB c 0 99
        · have HT:=H_ (show zaq ⟨k,m,c⟩=[] by simp[inB] at g;simp only[zaq,hN,h0,h1];simp;intro g1 g2;omega)
          clear hN;go_wp2_with (go_at_call 101;refine(za4 _ _ _ _).mono ?_;rintro e w' ⟨rfl,rfl⟩)
          go_ret;exact⟨zbw (a:=[]) (by rw[HT.o]),HB.o⟩
        · have g1:0<=c/\c<=99:=by simpa [inB] using g
          (have HT:=H_ (show zaq ⟨k,m,c⟩=zbq++Η c.toNat by simp only[zaq,hN,h0,h1];simp[g1]);clear hN;obtain⟨c,rfl⟩:∃ n:Nat,c=n:=⟨c.toNat,by omega⟩;have hc:c<100:=by omega);(have l1:=zfc c;clear g1;go_wp2_with (go_at_call 101;refine(za4 _ _ _ _).mono ?_;rintro e w' ⟨rfl,rfl⟩));refine(zss c _ hc).mono ?_;rintro e w2 ⟨rfl,hb⟩;replace HB:=HB.ts hb;clear hb;go_wp2;go_ret;exact⟨zra c _ HT.o,HB.o⟩
    · have HT:=H_ (show zaq ⟨k,m,c⟩=Γ m by simp only[zaq,hN,h0];rfl)
      clear hN;go_wp2_with fail
      refine(zk0 m _).mono ?_;rintro e w2 ⟨rfl,hb⟩;replace HB:=HB.ts hb;clear hb;go_wp2;go_ret;exact⟨zbw HT.o.symm,HB.o⟩
theorem zpe:(Tryz.prog.info? 156).map (·.size)=some 2:=by kernel_rfl
theorem zuz:liesAt prog Tryz.prog.depth 156 (2/Tryz.prog.cellsOf 156) 0 156 1=true:=by kernel_rfl
theorem zwg:(Tryz.prog.info? 5).map (λi=>(i.zero,i.size,i.bytes))=some (some (.int .u8 0),1,1):=by kernel_rfl
theorem zyp(b:Nat)(w:World)(h0:w.cell? (p_ b 0)=some (.pointer (q_ b 0))):
  Calls prog 185 #[.pointer (q_ b 0)] w λe w'=>e=.returned (.tuple #[])/\w'=w:=by
 obtain⟨j,hj,_⟩:=W_.1 zpe
 go_enter func185,ntmps185
 go_wp2;rw[Lib.run_neq_ptr_same w _ underlying154 hj];go_wp2
 go_end0
 exact⟨rfl,rfl⟩
theorem z0w(b:Nat)(w:World)(h0:w.cell? (p_ b 0)=some (.pointer none))(hsh:w.shape? b=some (156,2))(hfz:w.frozen? (p_ b 0)=false):
  Calls prog 185 #[.pointer (q_ b 0)] w λe w'=>e=.returned (.tuple #[])/\w'=w.setCell (p_ b 0) (.pointer (q_ b 0)):=by
 obtain⟨j,hj,hjs⟩:=W_.1 zpe
 go_enter func185,ntmps185
 go_wp2;rw[Lib.run_to_unsafe w (p_ b 0) underlying154 underlying218 hj (by rw[hjs];decide) hsh (Nat.zero_lt_succ 1)];simp only[Result.andThen];rw[ee_];go_wp2;rw[run_callFunc_extern func211 (by kernel_rfl) (by kernel_rfl) (by kernel_rfl) (e:=Extern.AbiNoEscape.same) (by kernel_rfl)];rw[Lib.run_noEscape];simp only[Result.andThen];rw[ee_];go_wp2;rw[Lib.run_from_unsafe w (p_ b 0) underlying218 underlying154 hj hsh zuz];simp only[Result.andThen];rw[ee_];go_wp2
 go_end0
 exact⟨rfl,rfl⟩
abbrev Bld(B b:Nat)(bs:List UInt8)(w:World):Prop:=Lib.IsBuilderF 156 5 B b (Lib.byteCells bs) w
theorem z11(B b:Nat)(bs:List Value)(w:World)(h:Lib.IsBuilderF 156 5 B b bs w):
  Calls prog 185 #[.pointer (q_ b 0)] w λe w'=>e=.returned (.tuple #[])/\(Lib.BuilderAtF 156 5 B b (.pointer (q_ b 0)) bs w'/\Below B w w'):=by
 rcases h with h|h
 ·refine(z0w b w h.cell0 h.shape h.frozen0).mono ?_
  rintro e w' ⟨rfl,rfl⟩;exact⟨rfl,h.used _,(B_ B w).setCell (p:=p_ b 0) h.1 _⟩
 ·refine(zyp b w h.cell0).mono ?_
  rintro e w' ⟨rfl,rfl⟩;exact⟨rfl,h,B_ B _⟩
theorem zya(w:World):Bld w w [] (w.alloc (.cells #[.pointer none,()] 156)):=
 .inl ⟨le_ _,(),ba_ w _,⟨rfl,.inl ⟨rfl,rfl⟩⟩,by simp[Value.ownBlock]⟩
theorem z1r(B b:Nat)(l:List UInt8)(w:World)(h:Bld B b l w)(hBw:B<=w.heap.size):
  Calls prog 144 #[.pointer (q_ b 0)] w λe w'=>e=.returned (.string ⟨l.toArray⟩)/\Below B w w':=by
 refine(Tryz.Builder_String_any_k B b l w h hBw).mono ?_;rintro e w' ⟨rfl,_,h2,_⟩;exact⟨rfl,h2⟩
theorem BldAt.below {b:Nat} {p:Value} {bs:List Value}(h:Lib.BuilderAtF T e B b p bs w)(hb:Below w w w'):Lib.BuilderAtF T e B b p bs w':=by
 obtain⟨hB,v,hbk,⟨hlen,hown⟩,hne⟩:=h;have hl:=(L_.1 hbk).1;refine⟨hB,v,(hb.block b hl).trans hbk,⟨hlen,?_⟩,hne⟩;rcases hown with h|⟨g,cap,cur,fz,h1,h2,h3,h4⟩
 ·exact .inl h
 ·exact .inr ⟨g,cap,cur,fz,h1,h2,(hb.block g (L_.1 h3).1).trans h3,h4⟩
theorem Bld.below {b:Nat} {bs:List UInt8}(h:Bld B b bs w)(hb:Below w w w'):Bld B b bs w':=
 h.imp (λh=>BldAt.below h hb) (λh=>BldAt.below h hb)
theorem zxt(a:Ac):(zaq a).length<=7:=by
 unfold zaq;have h1:=zil a.step;have h2:=zfc a.count.toNat
 repeat' split
 all_goals simp[zbq,zed]
 all_goals omega
theorem Rd.past {s:Nat} {cs:Array Value} {f:Nat × Nat}(h:Rd g w c)(hk:Blk s (.cells cs T f) w)(hn:∀ (j:Nat) (x:Int),cs[j]?≠some (.int .u8 x))(ho:β s (s+1) w w')(hs:s≠g):Rd g w' c:=by
 have hg:=h.lt;obtain⟨a,cap,p,xs,h1,h2,h3,h4,a',cap',e,e1,e2,e3,e4,e5⟩:=h;refine⟨a,cap,p,xs,(ho.block g hg (by omega)).trans h1,h2,h3,h4,a',cap',e,e1,e2,e3,e4,λi hi=>?_⟩;obtain⟨b,off,k1,k2,k3,k4,k5⟩:=e5 i hi
 have hb:b≠s:=by
  intro hb;subst hb;rw[hk.cell]at k5;have hi':i<xs.length:=by simpa using hi
  refine hn (off+i) xs[i] ?_;rw[k5];simp[hi']
 refine⟨b,off,k1,k2,k3,T_ k4 ho.size,?_⟩;rw[ag_ (w:=w) (a:=p_ b (off+i)) (ho.block b k4 (by omega))];exact k5
theorem zwk:∀ (j:Nat) (x:Int),(#[(),(),(),()]:Array Value)[j]?≠some (.int .u8 x):=by
 intro j x h
 match j with
 | 0=>simp at h
 | 1=>simp at h
 | 2=>simp at h
 | 3=>simp at h
 | j+4=>simp at h
def RetSt(P:ByteArray->World->Prop)(e:Ending)(w':World):Prop:=∃ s:ByteArray,e=.returned (.string s)/\P s w'
theorem SlB.below {xs:List Int}(h:SlB lo hi w v xs)(hb:Below B w w')(hB:hi<=B):SlB lo hi w' v xs:=⟨h.1.below hb hB,h.2⟩
theorem SlB.wide {xs:List Int}(h:SlB lo hi w v xs)(hh:hi<=hi'):SlB lo hi' w v xs:=⟨h.1.wide (le_ _) hh,h.2⟩
theorem zoc(z:Nat)(h:z<9):∃ s:ByteArray,(#[.string ⟨#[110,111,119]⟩,.string ⟨#[102,105,114,115,116]⟩,.string ⟨#[103,111,97,108]⟩,.string ⟨#[109,111,118,101,115]⟩,.string ⟨#[100,111,110,101]⟩,.string ⟨#[101,113,117,97,108]⟩,.string ⟨#[116,114,97,99,101]⟩,.string ⟨#[112,114,111,111,102]⟩,.string ⟨#[101,110,100,115]⟩]:Array Value)[z]?=some (.string s)/\s.size<=8:=by
 match z,h with
 | 0,_=>exact⟨_,rfl,by decide⟩
 | 1,_=>exact⟨_,rfl,by decide⟩
 | 2,_=>exact⟨_,rfl,by decide⟩
 | 3,_=>exact⟨_,rfl,by decide⟩
 | 4,_=>exact⟨_,rfl,by decide⟩
 | 5,_=>exact⟨_,rfl,by decide⟩
 | 6,_=>exact⟨_,rfl,by decide⟩
 | 7,_=>exact⟨_,rfl,by decide⟩
 | 8,_=>exact⟨_,rfl,by decide⟩
theorem z15(z:Nat)(h:z<8):∃ s:ByteArray,(#[.string ⟨#[]⟩,.string ⟨#[98,97,99,107]⟩,.string ⟨#[98,97,99,107,32,48,49]⟩,.string ⟨#[43,53]⟩,.string ⟨#[32,110,111,119]⟩,.string ⟨#[115,105,109,112,108,101,32,49]⟩,.string ⟨#[45,49,49,64,51]⟩,.string ⟨#[43,57,57,64,49]⟩]:Array Value)[z]?=some (.string s)/\s.size<=8:=by
 match z,h with
 | 0,_=>exact⟨_,rfl,by decide⟩
 | 1,_=>exact⟨_,rfl,by decide⟩
 | 2,_=>exact⟨_,rfl,by decide⟩
 | 3,_=>exact⟨_,rfl,by decide⟩
 | 4,_=>exact⟨_,rfl,by decide⟩
 | 5,_=>exact⟨_,rfl,by decide⟩
 | 6,_=>exact⟨_,rfl,by decide⟩
 | 7,_=>exact⟨_,rfl,by decide⟩
theorem zq4(g c lo hi:Nat)(d0 d1 d2 d3:Value)(D:Dsk)(w:World)(h:Rd g w c)(hc:c<=500000)(hx:Ι lo hi w d0 d1 d2 d3 D)(hh:hi<=w)(hap:g+1<=lo)(hm:D.size<=10000):
  Calls prog 47 #[.pointer (q_ g 0),π d0 d1 d2 d3] w (RetSt λs w'=>s.size<=20/\β g (g+1) w w'/\Rd g w' (c+200)):=by
 have hg:=h.lt;have⟨w0,hw0⟩:=xa_ w #[d0,d1,d2,d3] 31;obtain⟨hb0,KD_,hs0⟩:=Μ hw0;have KD:=H_ KD_;have HR:=H_ (h.below hb0 hg);have HX:=H_ (hx.below hb0 hh);have HO:=H_ ((β.refl g (g+1) w).below hb0 (le_ _));clear h hx hb0 KD_
 go_enter func47,ntmps47
 go_wp2_with fail
 simp only[<-hw0];clear hw0;refine(Δ g c 5 _ HR.o (by omega)).mono ?_;rintro e w1 ⟨q,rfl,i_,ho,hr⟩;clear i_;have hs1:=ho.size;replace HO:=H_ (HO.o.trans ho);replace KD:=H_ (KD.o.outside ho (.inr (by omega)));replace HX:=H_ (HX.o.outside ho (.inr (by omega)));replace HR:=H_ hr;have hlt:=HR.o.lt;clear ho hr;cases h0:q==0
 ·cases h1:q==1
  ·cases h2:q==2
   ·(have⟨k0,k1,k2,k3⟩:=KD.o.c4);go_wp2_with fail
    clear h0 h1 h2 k0 k1 k2 k3;refine(znr g _ lo hi _ _ _ _ D _ HR.o (by omega) HX.o (by omega) hap hm).mono ?_;rintro e w3 ⟨A,rfl,h_,r_⟩;have hs3:=h_.size;replace HO:=H_ (HO.o.trans h_);replace HR:=H_ r_;clear h_ r_;go_wp2_with fail
    refine(zsh A _).mono ?_;rintro e w4 ⟨rfl,hb⟩;have hs4:=hb.size;replace HO:=H_ (HO.o.below hb (by omega));replace HR:=H_ (HR.o.below hb HR.o.lt);have hl:=zxt A;clear hb;go_wp2;go_ret;exact⟨_,rfl,by show (zaq A).toArray.size<=20;simp;omega,HO.o,HR.o.mono (by omega)⟩
   ·go_wp2_with fail
    clear h0 h1 h2;refine(Δ g _ 8 _ (Rd.al HR.o _) (by omega)).mono ?_;rintro e w8 ⟨z,rfl,iz_,ho,hr⟩;obtain⟨iz,iz'⟩:=iz_.lt (by omega);clear iz_;obtain⟨z,rfl⟩:∃ n:Nat,z=n:=⟨z.toNat,by omega⟩;have jz:z<8:=by omega
    clear iz iz';obtain⟨sz,hsz,hss⟩:=z15 z jz;have hz:=((zh7 ho hlt).cell z).trans hsz;have HQ:=H_ (β.trans (HO.o.below (η w1 (.cells #[.string ⟨#[]⟩,.string ⟨#[98,97,99,107]⟩,.string ⟨#[98,97,99,107,32,48,49]⟩,.string ⟨#[43,53]⟩,.string ⟨#[32,110,111,119]⟩,.string ⟨#[115,105,109,112,108,101,32,49]⟩,.string ⟨#[45,49,49,64,51]⟩,.string ⟨#[43,57,57,64,49]⟩] 9)) (by omega)) ho);have R8:=H_ hr;have p6:(z:Int)<8:=by omega
    clear ho hr hsz;go_wp2;go_ret;exact⟨_,rfl,by omega,HQ.o,R8.o.mono (by omega)⟩
  ·go_wp2_with fail
   clear h0 h1;refine(Δ g _ 9 _ (Rd.al HR.o _) (by omega)).mono ?_;rintro e w8 ⟨z,rfl,iz_,ho,hr⟩;obtain⟨iz,iz'⟩:=iz_.lt (by omega);clear iz_;obtain⟨z,rfl⟩:∃ n:Nat,z=n:=⟨z.toNat,by omega⟩;have jz:z<9:=by omega
   clear iz iz';obtain⟨sz,hsz,hss⟩:=zoc z jz;have hz:=((zh7 ho hlt).cell z).trans hsz;have HQ:=H_ (β.trans (HO.o.below (η w1 (.cells #[.string ⟨#[110,111,119]⟩,.string ⟨#[102,105,114,115,116]⟩,.string ⟨#[103,111,97,108]⟩,.string ⟨#[109,111,118,101,115]⟩,.string ⟨#[100,111,110,101]⟩,.string ⟨#[101,113,117,97,108]⟩,.string ⟨#[116,114,97,99,101]⟩,.string ⟨#[112,114,111,111,102]⟩,.string ⟨#[101,110,100,115]⟩] 9)) (by omega)) ho);have R8:=H_ hr;have p6:(z:Int)<9:=by omega
   clear ho hr hsz;go_wp2;go_ret;exact⟨_,rfl,by omega,HQ.o,R8.o.mono (by omega)⟩
 ·go_wp2_with fail
  clear h0;refine(Δ g _ 9 _ (Rd.al HR.o _) (by omega)).mono ?_;rintro e w8 ⟨z,rfl,iz_,ho,hr⟩;obtain⟨iz,iz'⟩:=iz_.lt (by omega);clear iz_;obtain⟨z,rfl⟩:∃ n:Nat,z=n:=⟨z.toNat,by omega⟩;have jz:z<9:=by omega
  clear iz iz';obtain⟨sz,hsz,hss⟩:=zoc z jz;have hz:=((zh7 ho hlt).cell z).trans hsz;have HQ:=H_ (β.trans (HO.o.below (η w1 (.cells #[.string ⟨#[110,111,119]⟩,.string ⟨#[102,105,114,115,116]⟩,.string ⟨#[103,111,97,108]⟩,.string ⟨#[109,111,118,101,115]⟩,.string ⟨#[100,111,110,101]⟩,.string ⟨#[101,113,117,97,108]⟩,.string ⟨#[116,114,97,99,101]⟩,.string ⟨#[112,114,111,111,102]⟩,.string ⟨#[101,110,100,115]⟩] 9)) (by omega)) ho);have R8:=H_ hr;have p6:(z:Int)<9:=by omega
  clear ho hr hsz;go_wp2;go_ret;exact⟨_,rfl,by omega,HQ.o,R8.o.mono (by omega)⟩
theorem zz1(v:Value)(xs:List Int)(w:World)(h:SlB 0 w w v xs):
  Calls prog 19 #[v] w λe w'=>∃ (a b c__ d:Value) (D:Dsk) (s:ByteArray),e=.returned (.tuple #[π a b c__ d,.string s])/\Below w w w'/\Ι 0 w' w' a b c__ d D/\D.size<=1000/\s.size<=20:=by
 have⟨w0,hw0⟩:=xa_ w #[(),(),(),()] 31;obtain⟨hb0,KS_,hs0⟩:=Μ hw0;have KS:=H_ KS_;have HX:=H_ (SlB.wide (SlB.below h hb0 (le_ _)) hb0.size);have HW:=H_ hb0;have HW0:=H_ hw0;clear h hb0 KS_ hw0
 go_enter func19,ntmps19
 go_upto_region 1 with(rw[<-HW0.o])
 try rw[<-HW0.o]
 clear HW0;go_wp2_with fail
 refine(z0t _ xs _ HX.o).mono ?_;rintro e w1 ⟨_,rfl,g,rfl,hg,hb,hr⟩;have hs1:=hb.size;replace HW:=HW.tr hb (by omega);replace KS:=H_ (KS.o.below hb (by omega));have HR:=H_ hr;have hgl1:=hr.lt;clear hb hr HX;go_wp2_with fail
 refine(zw6 g 0 12 _ HR.o (by omega) (by omega)).mono ?_;rintro e w2 ⟨y0,y1,y2,y3,rfl,D,od_,hds,h_,r_⟩;have hs2:=h_.size;replace HW:=H_ (δ HW.o h_ (by omega) (by omega));replace KS:=H_ (KS.o.outside h_ (.inl (by omega)));replace HR:=H_ r_;have OD:=H_ od_;clear h_ r_ od_;obtain⟨p0,p1,p2,p3,p4,p5,p6,p7,i0,i1,i2,i3,l0,l1,l2,l3⟩:=OD.o.shapes;subst i0 i1 i2 i3;clear l0 l1 l2 l3;have⟨w3,hw3⟩:=xa_ w2 #[(.slice p0 D.first p1),(.slice p2 D.goal p3),(.slice p4 D.made p5),(.slice p6 D.now p7)] 31;obtain⟨hb3,KD_,hs3⟩:=Μ hw3;have KD:=H_ KD_;replace HW:=HW.tr hb3 (by omega);replace KS:=H_ (KS.o.below hb3 (by omega));replace OD:=H_ (OD.o.below hb3 (le_ _));replace HR:=H_ (HR.o.below hb3 HR.o.lt);have⟨gd,hgd⟩:=ex_ w2.heap.size;rw[<-hgd]at KD hs3 hs2;have OD':Q_ (Ι w1 gd w3 (.slice p0 D.first p1) (.slice p2 D.goal p3) (.slice p4 D.made p5) (.slice p6 D.now p7) D):=H_ (hgd ▸ OD.o);clear OD;have HW3:=H_ hw3;clear hb3 KD_ hw3;go_upto_region 3 with(rw[<-HW3.o])
 try rw[<-HW3.o]
 simp only[<-hgd];clear HW3 hgd;have O4:=β.set4 w w3.drew (.slice p0 D.first p1) (.slice p2 D.goal p3) (.slice p4 D.made p5) (.slice p6 D.now p7);have hdz:w3.drew.heap.size=w3.heap.size:=rfl;have⟨wy,hwy⟩:=x4_ w3.drew w (.slice p0 D.first p1) (.slice p2 D.goal p3) (.slice p4 D.made p5) (.slice p6 D.now p7);rw[<-hwy]at O4;have hz4:=O4.size;have HSY:=H_ ((KS.o.drew).set4 (.slice p0 D.first p1) (.slice p2 D.goal p3) (.slice p4 D.made p5) (.slice p6 D.now p7));rw[<-hwy]at HSY;have k_0:=(KD.o.drew).cell 0;have k_1:=(KD.o.drew).cell 1;have k_2:=(KD.o.drew).cell 2;have k_3:=(KD.o.drew).cell 3;have ky:=zaz (KD.o.drew) O4 (.inr (by omega));have KDY:=H_ ky;obtain⟨y_0,y_1,y_2,y_3⟩:=ky.c4;have s_0:=(KS.o.drew).cell 0;have s_1:=(KS.o.drew).cell 1;have s_2:=(KS.o.drew).cell 2;have s_3:=(KS.o.drew).cell 3;have t_0:=(KS.o.drew).free 0;have t_1:=(KS.o.drew).free 1;have t_2:=(KS.o.drew).free 2;have t_3:=(KS.o.drew).free 3;have ODD:=H_ (OD'.o.outside (β.drewn (β.refl g (g+1) w3)) (.inr (by omega)));have ODY:=H_ (Ι.outside ODD.o O4 (.inr (by omega)));have HRY:=H_ (Rd.past HR.o.drew KS.o.drew zwk O4 (by omega));have HBY:=H_ (δ (HW.o.drew) O4 (le_ _) (by omega));have HWY:=H_ hwy;clear hwy O4 ky
 go_region_held3 (λw'=>w'.cell? (p_ gd 0)=some (.slice p0 D.first p1)/\w'.cell? (p_ gd 1)=some (.slice p2 D.goal p3)/\w'.cell? (p_ gd 2)=some (.slice p4 D.made p5)/\w'.cell? (p_ gd 3)=some (.slice p6 D.now p7)) (first | with_reducible assumption | go_keep) (first
  | (go_at_call 47;refine(zq4 g _ w1 gd _ _ _ _ D w3.drew HR.o.drew (by omega) ODD.o (by omega) (by omega) (by omega)).mono ?_;rintro e5 w5 ⟨s_,rfl,hls,h_,r_⟩;(have hs5:=h_.size);(have ks5:=zaz KS.o.drew h_ (.inl (by omega)));(have kd5:=zaz KD.o.drew h_ (.inr (by omega)));(obtain⟨a_0,a_1,a_2,a_3⟩:=ks5.c4);(obtain⟨b_0,b_1,b_2,b_3⟩:=ks5.f4);(obtain⟨e_0,e_1,e_2,e_3⟩:=kd5.c4);(have kda:=zaz kd5 (β.set4 w w5 (.slice p0 D.first p1) (.slice p2 D.goal p3) (.slice p4 D.made p5) (.slice p6 D.now p7)) (.inr (by omega)));(obtain⟨m_0,m_1,m_2,m_3⟩:=kda.c4);(have KS5:=H_ ks5);(have OD5:=H_ (ODD.o.outside h_ (.inr (by omega))));(have HB5:=H_ (δ HW.o.drew h_ (by omega) (by omega)));clear ks5 kd5 kda h_ r_)
  | (rw[<-HWY.o];refine(zq4 g _ w1 gd _ _ _ _ D wy HRY.o (by omega) ODY.o (by omega) (by omega) (by omega)).mono ?_;rintro e5 w5 ⟨s_,rfl,hls,h_,r_⟩;(have hs5:=h_.size);(have ks5:=zaz HSY.o h_ (.inl (by omega)));(have kd5:=zaz KDY.o h_ (.inr (by omega)));(obtain⟨e_0,e_1,e_2,e_3⟩:=kd5.c4);(have KS5:=H_ ks5);(have OD5:=H_ (ODY.o.outside h_ (.inr (by omega))));(have HB5:=H_ (δ HBY.o h_ (by omega) (by omega)));clear ks5 kd5 h_ r_)
  | (rw[<-HWY.o]))
 all_goals (
  have⟨wa,hwa⟩:=x4_ w5 w (.slice p0 D.first p1) (.slice p2 D.goal p3) (.slice p4 D.made p5) (.slice p6 D.now p7);have OA:=β.set4 w w5 (.slice p0 D.first p1) (.slice p2 D.goal p3) (.slice p4 D.made p5) (.slice p6 D.now p7);have KSA:=KS5.o.set4 (.slice p0 D.first p1) (.slice p2 D.goal p3) (.slice p4 D.made p5) (.slice p6 D.now p7);rw[<-hwa]at OA KSA;have hs_a:=OA.size;obtain⟨zs0,zs1,zs2,zs3⟩:=KSA.c4;have HE:=H_ (δ HB5.o OA (le_ _) (by omega));have ODZ:=H_ ((OD5.o.outside OA (.inr (by omega))).wide (aw_ _) (show _<=wa.heap.size by omega));clear OA KSA;simp only[<-hwa];clear hwa;go_wp2_with fail
  refine d_ (v:=.tuple #[.agg #[(.slice p0 D.first p1),(.slice p2 D.goal p3),(.slice p4 D.made p5),(.slice p6 D.now p7)],.string s_]) (by simp[results,results19,go_sem,zs0,zs1,zs2,zs3]) rfl ⟨_,_,_,_,D,s_,rfl,HE.o,ODZ.o,hds,by omega⟩)
end Go.Proofs.YtfnnhimopokpnaaGreatDoor
