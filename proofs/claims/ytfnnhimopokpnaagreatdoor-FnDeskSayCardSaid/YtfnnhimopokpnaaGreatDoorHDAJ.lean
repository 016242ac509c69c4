/- Lemmas for this seat; no condition. -/
import Derived.Test.YtfnnhimopokpnaaGreatDoorHDAI
namespace Go.Proofs.YtfnnhimopokpnaaGreatDoor
open Go.RowKit Proofs.Tryz
set_option maxRecDepth 100000
set_option maxHeartbeats 0
set_option linter.all false
variable {g lo hi n cap c c' lx ux B hi' lo':Nat} {w w' wr w2:World} {e:TypeId} {x0 x1 x2 x3 y0 y1 y2 y3 v:Value} {xs:List Int} {X:Dsk}
theorem β.grown(h:Below w w w'):β g (g+1) w w':=β.of_below h (le_ _)
theorem zvj {a:Option Addr} {ms:List Mv}(h:SlM lo hi w (.slice a n cap) ms):n<=cap:=by
 obtain⟨a',c',e,h1,_⟩:=h.shape;injection e with _ e1 e2;omega
theorem Blk.fld1(h:Blk g (.cells #[x0,x1,x2,x3] e (0,0)) w)(y:Value):Blk g (.cells #[x0,y,x2,x3] e (0,0)) (w.setCell (p_ g 1) y):=by
 have h':w.heap[g]?=_:=h
 show (w.setCell (p_ g 1) y).heap[g]?=_
 simp[World.setCell,V_,h']
theorem Blk.fld2(h:Blk g (.cells #[x0,x1,x2,x3] e (0,0)) w)(y:Value):Blk g (.cells #[x0,x1,y,x3] e (0,0)) (w.setCell (p_ g 2) y):=by
 have h':w.heap[g]?=_:=h
 show (w.setCell (p_ g 2) y).heap[g]?=_
 simp[World.setCell,V_,h']
theorem Blk.fld3(h:Blk g (.cells #[x0,x1,x2,x3] e (0,0)) w)(y:Value):Blk g (.cells #[x0,x1,x2,y] e (0,0)) (w.setCell (p_ g 3) y):=by
 have h':w.heap[g]?=_:=h
 show (w.setCell (p_ g 3) y).heap[g]?=_
 simp[World.setCell,V_,h']
theorem β.drewn(h:β lo hi w w'):β lo hi w w'.drew:=⟨h.os,h.tape,h.output,h.size,h.block⟩
theorem zpu(D:Dsk)(A:Ac):(Χ D A).1.size<=180:=by
 cases h:φ D
 ·simp[Χ,h,Dsk.none,Dsk.size]
 ·exact zkl (zrn A h)
theorem zwn {ys:List Int}(h:xs.length<=60)(k:ys.length<=50):(zbv xs ys).size<=180:=by
 unfold zbv
 split
 ·simp[Dsk.size];omega
 ·simp[Dsk.none,Dsk.size]
theorem z09(xs ys:List Int):(zbv xs ys).size<=180:=by
 unfold zbv
 split
 ·rename_i hc
  simp only[j_]at hc;have h1:=(zcb hc.1).2;have h2:=(zcb hc.2).2;simp[Dsk.size];omega
 ·simp[Dsk.none,Dsk.size]
theorem zx0 {F G:List Int} {ms:List Mv}(h:ms.length<=180):(⟨(zbv F G).first,(zbv F G).goal,ms,(υ F ms).getD []⟩:Dsk).size<=400:=by
 have h1:(zbv F G).first.length<=40/\(zbv F G).goal.length<=40:=by
  unfold zbv
  split
  ·rename_i hc
   simp only[j_]at hc;exact⟨(zcb hc.1).2,(zcb hc.2).2⟩
  ·simp[Dsk.none]
 have h2:((υ F ms).getD []).length<=40:=by
  cases hp:υ F ms with
  | none=>simp
  | some x=>exact(zcb (zh2 hp)).2
 simp only[Dsk.size];omega
structure zj7(g c gd:Nat)(w wr:World):Prop where
 o:β g (g+1) w wr
 rd:Rd g wr c
 res:Blk w (.cells #[(),(),(),()] 31) wr
 desk:∃ (y0 y1 y2 y3:Value) (D:Dsk) (l h:Nat),Blk gd (.cells #[y0,y1,y2,y3] 31) wr/\Κ l h wr y0 y1 y2 y3 D/\D.size<=400/\g+1<=l/\w.heap.size+1<=l/\h<=wr/\(gd<l\/h<=gd)
def GotD(g c:Nat)(wr:World)(gx:Nat)(x0 x1 x2 x3:Value)(X:Dsk)(lx ux:Nat)(wx:World):Prop:=
 Blk gx (.cells #[x0,x1,x2,x3] 31) wx/\Κ lx ux wx x0 x1 x2 x3 X/\X.size<=180/\wr.heap.size<=gx/\wr.heap.size<=lx/\(gx<lx\/ux<=gx)/\ux<=wx/\β g (g+1) wr wx/\Rd g wx c
theorem gotD1(o:Κ lx ux w2 x0 x1 x2 x3 X)(hX:X.size<=180)(h:β g (g+1) wr w2)(r:Rd g w2 c')(hc:c'<=c)(h1:wr.heap.size<=lx)(h2:ux<=w2):
  GotD g c wr w2 x0 x1 x2 x3 X lx ux (w2.alloc (.cells #[x0,x1,x2,x3] 31)):=
 ⟨κ _ _,o.below (ζ _ _) h2,hX,h.size,h1,.inr h2,by simp only[μ];omega,h.trans (β.grown (ζ _ _)),(r.al _).mono hc⟩
theorem gotD2 {gx: Nat}(k : Blk gx (.cells #[y0, y1, y2, y3] 31) w2)(o : Κ lx ux w2 x0 x1 x2 x3 X)(hX : X.size <= 180)(h : β g (g + 1) wr w2)(r : Rd g w2 c')(hc : c' <= c)(h1 : wr.heap.size <= lx)(h2 : ux <= w2.heap.size)(h3 : wr.heap.size <= gx)(h4 : g < gx)(h5 : gx < lx := by omega):
  GotD g c wr gx x0 x1 x2 x3 X lx ux ((((w2.setCell (p_ gx 0) x0).setCell (p_ gx 1) x1).setCell (p_ gx 2) x2).setCell (p_ gx 3) x3):=
 ⟨k.set4 _ _ _ _,o.outside (β.set4 _ _ _ _ _ _) (.inr (by omega)),hX,h3,h1,.inl h5,by have:=(β.set4 gx w2 x0 x1 x2 x3).size;omega,h.fresh (β.set4 _ _ _ _ _ _) h3,(r.outside (β.set4 _ _ _ _ _ _) h4).mono hc⟩
theorem zwj {gd l h:Nat}(k:Blk gd (.cells #[y0,y1,y2,y3] 31) w2)(o:Κ l h w2 x0 x1 x2 x3 X)(hX:X.size<=400)(ho:β g (g+1) w w2)(r:Rd g w2 c')(kt:Blk w (.cells #[(),(),(),()] 31) w2)
  (hc:c'<=c) (h1:g<l) (h2:w.heap.size<l) (h3:h<=w2) (h4:gd<l) (h5:w.heap.size<gd) (h6:g<gd) :
  zj7 g c gd w ((((w2.setCell (p_ gd 0) x0).setCell (p_ gd 1) x1).setCell (p_ gd 2) x2).setCell (p_ gd 3) x3):=
 have O:=β.set4 gd w2 x0 x1 x2 x3
 ⟨ho.fresh O (by omega),(r.outside O h6).mono hc,kt.outside O (.inl h5),_,_,_,_,X,l,h,k.set4 _ _ _ _,o.outside O (.inr h4),hX,h1,h2,J_ h3 O.size,.inl h4⟩
theorem zzy(g c:Nat)(n:Int)(w:World)(h:Rd g w c)(hc:c<=100000)(hn:n<=1000):
  Calls prog 46 #[.pointer (q_ g 0),.int .i64 n] w (zdb λa b c__ d w'=>∃ D:Dsk,Θ w w' w' a b c__ d D/\D.size<=1000/\β g (g+1) w w'/\Rd g w' (c+10000)):=by
 have hg:=h.lt;have⟨w0,hw0⟩:=xa_ w #[(),(),(),()] 31;obtain⟨hb0,KT_,hs0⟩:=Η hw0;have KT:=H_ KT_;have HR:=H_ (h.below hb0 hg);have HO:=H_ ((β.refl g (g+1) w).below hb0 (le_ _));clear h hb0 KT_
 go_enter func46,ntmps46
 go_wp2_with fail
 simp only[<-hw0];clear hw0;refine(zxq g c 0 _ HR.o (by omega) (by omega)).mono ?_;rintro e w1 ⟨v1,rfl,xs,ox_,lx_,h_,r_⟩;have hs_w1:=h_.size;replace KT:=H_ (KT.o.outside h_ (.inr (by omega)));replace HO:=H_ (HO.o.trans h_);replace HR:=H_ r_;clear h_ r_;obtain⟨xa,xc,rfl,_,_⟩:=π ox_;have OX:=H_ ox_;clear ox_
 go_upto_if 16 with fail
 go_cut [5] (λv wx=>∃ (za:Option Addr) (zc:Nat) (zs:List Int) (l h:Nat),v=.slice za zs zc/\zs.length<=16/\Q_ (SlI l h wx (.slice za zs zc) zs/\g+1<=l/\w.heap.size<=l/\h<=wx/\β g (g+1) w wx/\Rd g wx (c+2000)/\Blk w (.cells #[(),(),(),()] 31) wx))
 case first=>
  by_cases hl:16<xs.length
  ·go_wp2_with fail
   go_meet
   exact⟨_,_,[10,16,19,21],_,_,rfl,by simp,H_ ⟨(γ.sl (show γ w1 (w1+1) 3 _ _ _ from ς 1 3 w1 (δ [10,16,19,21]) 4 (by omega) rfl)),by omega,by omega,by simp,HO.o.below (ζ _ _) (by omega),HR.o.al _,KT.o.al⟩⟩
  ·go_wp2_with fail
   go_meet
   exact⟨_,_,xs,_,_,rfl,by omega,H_ ⟨OX.o,by omega,by omega,le_ _,HO.o,HR.o,KT.o⟩⟩
 case rest=>
  obtain⟨za,zc,zs,l1,h1,rfl,hz16,HQ⟩:=hcut;obtain⟨w2,rfl⟩:=ex_ wc;obtain⟨ox_,hl1,hl1',hh1,ho_,hr_,kt_⟩:=HQ.o;clear HQ OX HO HR KT;have OX:=H_ ox_;have HO:=H_ ho_;have HR:=H_ hr_;have KT:=H_ kt_;have hsz2:=kt_.lt;clear ox_ ho_ hr_ kt_;go_wp2_with fail
  refine(zm5 g _ 2 0 _ HR.o (by omega) (by omega) (by omega) (by omega)).mono ?_;rintro e w3 ⟨v2,rfl,ys,oy_,ly_,h_,r_⟩;have hs_w3:=h_.size;replace KT:=H_ (KT.o.outside h_ (.inr (by omega)));replace OX:=H_ (OX.o.outside h_ (.inr (by omega)));replace HO:=H_ (HO.o.trans h_);replace HR:=H_ r_;clear h_ r_;obtain⟨ya,yc,rfl,_,_⟩:=π oy_.sl;have OY:=H_ oy_.sl;clear oy_;have⟨w4,hw_⟩:=xa_ w3 #[] 67;obtain⟨hb_,K_,hs_w4⟩:=Η hw_;replace HR:=H_ (HR.o.below hb_ HR.o.lt);have h_:=β.of_below (lo:=g) (hi:=g+1) hb_ (le_ _);replace KT:=H_ (KT.o.outside h_ (.inr (by omega)));replace OX:=H_ (OX.o.outside h_ (.inr (by omega)));replace OY:=H_ (OY.o.outside h_ (.inr (by omega)));replace HO:=H_ (HO.o.trans h_);clear h_ hb_
  have OM:Q_ (SlM w3 (w3+1) w4 (.slice (q_ w3 0) 0 0) []):=by
   rw[hw_];exact H_ (zct (show Own 3 w3 (w3+1) 67 _ _ _ _ from ς 3 67 w3 [] 0 (by omega) rfl))
  go_wp2_with fail
  simp only[<-hw_];clear hw_ K_;refine(zky _ _ _ _ _ _ zs ys w4 OX.o OY.o (by omega) (by omega) (by omega) (by omega)).mono ?_;rintro e w5 ⟨y0,y1,y2,y3,rfl,od_,hb_⟩;replace HR:=H_ (HR.o.below hb_ HR.o.lt);have h_:=β.of_below (lo:=g) (hi:=g+1) hb_ (le_ _);have hs_w5:=h_.size;replace KT:=H_ (KT.o.outside h_ (.inr (by omega)));replace OX:=H_ (OX.o.outside h_ (.inr (by omega)));replace OY:=H_ (OY.o.outside h_ (.inr (by omega)));replace OM:=H_ (OM.o.outside h_ (.inr (by omega)));replace HO:=H_ (HO.o.trans h_);clear h_ hb_;have OD:=H_ od_;clear od_;have hds:=zwn (xs:=zs) (ys:=ys) (by omega) (by omega);have⟨D,hD⟩:=ex_ (zbv zs ys);rw[<-hD]at OD hds;clear hD OY;obtain⟨p0,r0,p1,r1,p2,r2,p3,r3,i0,i1,i2,i3⟩:=OD.o.open;subst i0 i1 i2 i3;have⟨w6,hw_⟩:=xa_ w5 #[.slice p0 D.first r0,.slice p1 D.goal r1,.slice p2 D.made r2,.slice p3 D.now r3] 31;obtain⟨hb_,K_,hs_w6⟩:=Η hw_;replace HR:=H_ (HR.o.below hb_ HR.o.lt);have h_:=β.of_below (lo:=g) (hi:=g+1) hb_ (le_ _);replace KT:=H_ (KT.o.outside h_ (.inr (by omega)));replace OX:=H_ (OX.o.outside h_ (.inr (by omega)));replace OM:=H_ (OM.o.outside h_ (.inr (by omega)));replace OD:=H_ (OD.o.outside h_ (.inr (by omega)));replace HO:=H_ (HO.o.trans h_);clear h_ hb_;have KD:=H_ K_;go_wp2_with fail
  simp only[<-hw_];clear hw_ K_;refine(Δ g _ 5 _ HR.o (by omega)).mono ?_;rintro e w7 ⟨q5,rfl,i_,h_,r_⟩;have hs_w7:=h_.size;replace KT:=H_ (KT.o.outside h_ (.inr (by omega)));replace OX:=H_ (OX.o.outside h_ (.inr (by omega)));replace OM:=H_ (OM.o.outside h_ (.inr (by omega)));replace OD:=H_ (OD.o.outside h_ (.inr (by omega)));replace KD:=H_ (KD.o.outside h_ (.inr (by omega)));replace HO:=H_ (HO.o.trans h_);replace HR:=H_ r_;clear h_ r_;obtain⟨i1_,i2_⟩:=i_.lt (by omega);clear i_;obtain⟨k5,rfl⟩:∃ k:Nat,q5=k:=⟨q5.toNat,by omega⟩;have hgu:=KD.o.lt;have hLays:zj7 g (c+3000+200*(4-k5)) w5 w w7:=⟨HO.o,HR.o.mono (by omega),KT.o,_,_,_,_,D,_,_,KD.o,OD.o,by omega,by omega,by omega,by omega,by omega⟩;have HL:=H_ hLays;clear hLays OD HO HR KT KD hds;go_wp2_with fail
  go_loopw [7,9] (λmv kv wr=>∃ (j:Nat) (ma:Option Addr) (mc:Nat) (ms:List Mv),mv=.slice ma ms mc/\kv=.int .i64 j/\j<=4/\ms.length<=180/\Q_ (zj7 g (c+3000+200*(4-j)) w5 w wr/\SlI l1 h1 wr (.slice za zs zc) zs/\w2<=wr.heap.size/\w5<wr.heap.size/\∃ l2 h2,SlM l2 h2 wr (.slice ma ms mc) ms/\g+1<=l2/\w.heap.size<=l2/\h2<=wr.heap.size/\(w5.heap.size<l2\/h2<=w5.heap.size))) (λ_ k _=>(intOf k).toNat)
  case atStart=>exact⟨k5,_,_,[],rfl,rfl,by omega,by simp,H_ ⟨HL.o,OX.o,by omega,by omega,_,_,OM.o,by omega,by omega,by omega,by omega⟩⟩
  case round=>
   clear HL OX OM;obtain⟨j,ma,mc,ms,rfl,rfl,hj4,hm60,HQ⟩:=hrel;obtain⟨hL_,ox_,hsr,hgr,l2,h2,om_,hl2,hl2',hh2,hd2⟩:=HQ.o;obtain⟨ho_,hr_,kt_,y0,y1,y2,y3,D,l,h,kd_,od_,hds,hl,hl',hh,hdd⟩:=hL_;have HO:=H_ ho_;have HR:=H_ hr_;have KT:=H_ kt_;have KD:=H_ kd_;have OD:=H_ od_;have OX:=H_ ox_;have OM:=H_ om_;clear HQ ho_ hr_ kt_ kd_ od_ ox_ om_;by_cases hpos:0<j
   ·skip
    go_upto_region 10 with fail
    go_cut [10,11] (λp__ q__ wx=>∃ (gx:Nat) (t:Bool) (x0 x1 x2 x3:Value) (X:Dsk) (lx ux:Nat),p__=.pointer (q_ gx 0)/\q__=.bool t/\Q_ (GotD g (c+3000+200*(4-(j-1))) wr gx x0 x1 x2 x3 X lx ux wx))
    case first=>
     (have hg0:=HR.o.lt;have hgs:∀ w':World,β g (g+1) wr w'->w'.cell? (p_ w5 0)=some y0/\w'.cell? (p_ w5 1)=some y1/\w'.cell? (p_ w5 2)=some y2/\w'.cell? (p_ w5 3)=some y3:=λw' ho=>⟨(KD.o.outside ho (.inr (by omega))).cell 0,(KD.o.outside ho (.inr (by omega))).cell 1,(KD.o.outside ho (.inr (by omega))).cell 2,(KD.o.outside ho (.inr (by omega))).cell 3⟩);(have hoA:β g (g+1) wr wr.drew:=(β.refl _ _ _).drewn;have hoB:β g (g+1) wr (wr.alloc (.cells #[(),(),(),()] 31)).drew:=(β.grown (ζ wr (.cells #[(),(),(),()] 31))).drewn;have hS:=hgs wr (β.refl _ _ _);have hSA:=hgs _ hoA;have hSB:=hgs _ hoB;have hdB:(wr.alloc (.cells #[(),(),(),()] 31)).drew.heap.size=wr.heap.size+1:=μ _ _;have hdA:wr.drew.heap.size=wr.heap.size:=rfl;have HGS:=H_ hgs;clear hgs)
     go_region_held3 (λw'=>w'.cell? (p_ w5 0)=some y0/\w'.cell? (p_ w5 1)=some y1/\w'.cell? (p_ w5 2)=some y2/\w'.cell? (p_ w5 3)=some y3) (first | with_reducible assumption | go_keep) (first
      | (go_at_call 81;refine(zlo g _ l h _ _ _ _ D wr.drew (HR.o) (by omega) (OD.o.at.outside hoA (.inr (by omega))) (by omega) hl (by omega)).mono ?_;rintro e1 w1_ ⟨A,rfl,h_,r_⟩;(have hz1:=h_.size);(have ho1:=β.trans hoA h_);(have hS1:=HGS.o _ ho1);(have hSN1:=HGS.o _ (ho1.trans (β.grown (ζ _ (.cells #[(),(),(),()] 31)))));(have hz1n:(w1_.alloc (.cells #[(),(),(),()] 31)).heap.size=w1_.heap.size+1:=μ _ _);(have R1:=H_ r_);clear h_ r_)
      | (go_at_call 81;refine(zlo g _ l h _ _ _ _ D (wr.alloc (.cells #[(),(),(),()] 31)).drew (HR.o.al _) (by omega) (OD.o.at.outside hoB (.inr (by omega))) (by omega) hl (by omega)).mono ?_;rintro e1 w1_ ⟨A,rfl,h_,r_⟩;(have hz1:=h_.size);(have ho1:=β.trans hoB h_);(have hS1:=HGS.o _ ho1);(have hSN1:=HGS.o _ (ho1.trans (β.grown (ζ _ (.cells #[(),(),(),()] 31)))));(have hz1n:(w1_.alloc (.cells #[(),(),(),()] 31)).heap.size=w1_.heap.size+1:=μ _ _);(have R1:=H_ r_);(have KN:=H_ (hop1 h_ hg0));clear h_ r_)
      | (go_at_call 52;refine(zm3 l h _ _ _ _ D A w1_ (OD.o.at.outside ho1 (.inr (by omega))) (by omega) (by omega)).mono ?_;rintro e2 w2_ ⟨x0,x1,x2,x3,t,rfl,o_,rfl,hb_⟩;(have hX:=zpu D A);obtain⟨X,tt,hXe⟩:∃ X tt,Χ D A=(X,tt):=⟨_,_,rfl⟩;rw[hXe] at o_ hX ⊢;obtain⟨z0,z1,z2,z3,z4,z5,z6,z7,i0,i1,i2,i3⟩:=o_.open;subst i0 i1 i2 i3;(have hz2:=hb_.size);(have ho2:=β.trans ho1 (β.grown (g:=g) hb_));(have hS2:=HGS.o _ ho2);(have hSN2:=HGS.o _ (ho2.trans (β.grown (ζ _ (.cells #[(),(),(),()] 31)))));(have hSL:=HGS.o _ (ho2.trans (β.grown (ζ _ (.cells #[.slice z0 X.first z1,.slice z2 X.goal z3,.slice z4 X.made z5,.slice z6 X.now z7] 31)))));(have hS40:=HGS.o _ (β.fresh ho2 (β.set4 wr w2_ (.slice z0 X.first z1) (.slice z2 X.goal z3) (.slice z4 X.made z5) (.slice z6 X.now z7)) (by omega)));(have hS41:=HGS.o _ (β.fresh ho2 (β.set4 w1_ w2_ (.slice z0 X.first z1) (.slice z2 X.goal z3) (.slice z4 X.made z5) (.slice z6 X.now z7)) (by omega)));(have R2:=H_ (R1.o.below hb_ R1.o.lt));(try (have kn:=KN.o.below hb_ (by omega);(obtain⟨c0,c1,c2,c3⟩:=kn.c4);(obtain⟨f0,f1,f2,f3⟩:=kn.f4);(have KM:=H_ kn);clear kn));(have O2:=H_ o_);clear hb_ o_ hXe)
      | (go_at_call 52;refine(zm3 l h _ _ _ _ D A (w1_.alloc (.cells #[(),(),(),()] 31)) (OD.o.at.outside (ho1.trans (β.grown (ζ _ _))) (.inr (by omega))) (by omega) (by omega)).mono ?_;rintro e2 w2_ ⟨x0,x1,x2,x3,t,rfl,o_,rfl,hb_⟩;(have hX:=zpu D A);obtain⟨X,tt,hXe⟩:∃ X tt,Χ D A=(X,tt):=⟨_,_,rfl⟩;rw[hXe] at o_ hX ⊢;obtain⟨z0,z1,z2,z3,z4,z5,z6,z7,i0,i1,i2,i3⟩:=o_.open;subst i0 i1 i2 i3;(have hz2:=hb_.size);(have ho2:=β.trans (ho1.trans (β.grown (ζ _ _))) (β.grown (g:=g) hb_));(have hS2:=HGS.o _ ho2);(have hSN2:=HGS.o _ (ho2.trans (β.grown (ζ _ (.cells #[(),(),(),()] 31)))));(have hSL:=HGS.o _ (ho2.trans (β.grown (ζ _ (.cells #[.slice z0 X.first z1,.slice z2 X.goal z3,.slice z4 X.made z5,.slice z6 X.now z7] 31)))));(have hS40:=HGS.o _ (β.fresh ho2 (β.set4 wr w2_ (.slice z0 X.first z1) (.slice z2 X.goal z3) (.slice z4 X.made z5) (.slice z6 X.now z7)) (by omega)));(have hS41:=HGS.o _ (β.fresh ho2 (β.set4 w1_ w2_ (.slice z0 X.first z1) (.slice z2 X.goal z3) (.slice z4 X.made z5) (.slice z6 X.now z7)) (by omega)));(have kn:=(κ w1_ (.cells #[(),(),(),()] 31)).below hb_ (by omega));(have R2:=H_ ((R1.o.al _).below hb_ (R1.o.al (.cells #[(),(),(),()] 31)).lt));(obtain⟨c0,c1,c2,c3⟩:=kn.c4);(obtain⟨f0,f1,f2,f3⟩:=kn.f4);(have KM:=H_ kn);clear kn;(have O2:=H_ o_);clear hb_ o_ hXe))
     all_goals (
      go_wp2_with fail
      go_meet
      with_reducible first
       | exact⟨_,_,_,_,_,_,_,_,_,rfl,rfl,H_ (gotD1 O2.o hX ho2 R2.o (by omega) (by omega) (by omega))⟩
       | exact⟨_,_,_,_,_,_,_,_,_,rfl,rfl,H_ (gotD2 KM.o O2.o hX ho2 R2.o (by omega) (by omega) (by omega) (by omega) (by omega))⟩)
    case rest=>
     (obtain⟨gx,t,x0,x1,x2,x3,X,lx,ux,rfl,rfl,HQ⟩:=hcut;obtain⟨wx,rfl⟩:=ex_ wc;obtain⟨kx_,oxd_,hXs,hgx,hlx,hdx,hux,h_,r_⟩:=HQ.o;have KX:=H_ kx_;have OXD:=H_ oxd_;have hs_x:=h_.size;have hgxu:=kx_.lt;replace KT:=H_ (KT.o.outside h_ (.inr (by omega)));replace KD:=H_ (KD.o.outside h_ (.inr (by omega)));replace OD:=H_ (OD.o.outside h_ (.inr (by omega)));replace OX:=H_ (OX.o.outside h_ (.inr (by omega)));replace OM:=H_ (OM.o.outside h_ (.inr (by omega)));replace HO:=H_ (HO.o.trans h_);replace HR:=H_ r_;clear HQ kx_ oxd_ h_ r_;obtain⟨u0,v0,u1,v1,u2,v2,u3,v3,i0,i1,i2,i3⟩:=OXD.o.open;subst i0 i1 i2 i3;have m60:X.made.length<=180:=by unfold Dsk.size at hXs;omega);cases t
     ·go_wp2
      go_roundw
      (case rel=>exact⟨j-1,_,_,ms,rfl,by first | go_num | (congr 1;omega),by omega,by omega,H_ ⟨⟨HO.o,HR.o,KT.o,y0,y1,y2,y3,D,l,h,KD.o,OD.o,hds,hl,hl',by omega,hdd⟩,OX.o,by omega,by omega,l2,h2,OM.o,hl2,hl2',by omega,hd2⟩⟩);case measure=>simp[intOf];omega
     ·skip
      (have⟨a0,a1,a2,a3⟩:=KX.o.c4;have⟨b0,b1,b2,b3⟩:=KD.o.c4;have⟨f0,f1,f2,f3⟩:=KD.o.f4;have⟨wz,hwz⟩:=x4_ wx w5 (.slice u0 X.first v0) (.slice u1 X.goal v1) (.slice u2 X.made v2) (.slice u3 X.now v3);have OZ:=β.set4 w5 wx (.slice u0 X.first v0) (.slice u1 X.goal v1) (.slice u2 X.made v2) (.slice u3 X.now v3);have KZ:=KD.o.set4 (.slice u0 X.first v0) (.slice u1 X.goal v1) (.slice u2 X.made v2) (.slice u3 X.now v3);rw[<-hwz]at OZ KZ;have e2:=(KX.o.outside OZ (.inr (by omega))).cell 2;have HKZ:=H_ KZ;have hs_z:=OZ.size;have OXZ:=H_ (OXD.o.outside OZ (.inr (by omega)));have HNW:=H_ (a_ (HO.o.fresh OZ (by omega)) (a_ (HR.o.outside OZ (by omega)) (a_ (KT.o.outside OZ (.inl (by omega))) (OX.o.outside OZ (.inl (by omega))))));have HWZ:=H_ hwz;clear hwz OZ KZ;go_upto_region 13 with(rw[<-HWZ.o]))
      try rw[<-HWZ.o]
      clear a0 a1 a2 a3 b0 b1 b2 b3 f0 f1 f2 f3 HWZ;go_wp2;go_roundw
      (case rel=>exact⟨j-1,_,_,X.made,rfl,by first | go_num | (congr 1;omega),by omega,by omega,H_ ⟨⟨HNW.o.1,HNW.o.2.1,HNW.o.2.2.1,_,_,_,_,X,lx,ux,HKZ.o,OXZ.o,by omega,by omega,by omega,by omega,by omega⟩,HNW.o.2.2.2,by omega,by omega,lx,ux,OXZ.o.at.made,by omega,by omega,by omega,by omega⟩⟩);case measure=>simp[intOf];omega
   ·skip
    (obtain rfl:j=0:=by omega);go_wp2_with fail
    refine(Δ g _ 2 _ HR.o (by omega)).mono ?_;rintro e w8 ⟨q14,rfl,i_,h_,r_⟩;have hs_w8:=h_.size;replace KT:=H_ (KT.o.outside h_ (.inr (by omega)));replace KD:=H_ (KD.o.outside h_ (.inr (by omega)));replace OD:=H_ (OD.o.outside h_ (.inr (by omega)));replace OX:=H_ (OX.o.outside h_ (.inr (by omega)));replace OM:=H_ (OM.o.outside h_ (.inr (by omega)));replace HO:=H_ (HO.o.trans h_);replace HR:=H_ r_;clear h_ r_;clear i_;have hcap:=zvj OM.o
    go_upto_if 44 with fail
    go_cut [] (λwx=>Q_ (zj7 g (c+4100) w5 w wx))
    case first=>
     cases hq14:q14==0
     ·go_wp2_with fail
      go_meet
      exact H_ ⟨HO.o,HR.o.mono (by omega),KT.o,y0,y1,y2,y3,D,l,h,KD.o,OD.o,hds,hl,hl',by omega,hdd⟩
     ·skip
      (have⟨k_0,k_1,k_2,k_3⟩:=KD.o.c4;go_wp2_with fail);clear k_0 k_1 k_2 k_3;refine(zky _ _ _ _ _ _ zs D.now w8 OX.o OD.o.at.now (by omega) (by omega) (by omega) (by unfold Dsk.size at hds;omega)).mono ?_;rintro e w9 ⟨a0,a1,a2,a3,rfl,on_,hb_⟩;replace HR:=H_ (HR.o.below hb_ HR.o.lt);have h_:=β.of_below (lo:=g) (hi:=g+1) hb_ (le_ _);have hs_w9:=h_.size;replace KT:=H_ (KT.o.outside h_ (.inr (by omega)));replace KD:=H_ (KD.o.outside h_ (.inr (by omega)));replace OD:=H_ (OD.o.outside h_ (.inr (by omega)));replace OX:=H_ (OX.o.outside h_ (.inr (by omega)));replace OM:=H_ (OM.o.outside h_ (.inr (by omega)));replace HO:=H_ (HO.o.trans h_);clear h_ hb_;have ON:=H_ on_;clear on_;have hns:=z09 zs D.now;have⟨N,hN⟩:=ex_ (zbv zs D.now);rw[<-hN]at ON hns;clear hN;obtain⟨p0,r0,p1,r1,p2,r2,p3,r3,i0,i1,i2,i3⟩:=ON.o.open;subst i0 i1 i2 i3;have⟨b_0,b_1,b_2,b_3⟩:=KD.o.c4;have⟨f_0,f_1,f_2,f_3⟩:=KD.o.f4;have⟨wz,hwz⟩:=x4_ w9 w5 (.slice p0 N.first r0) (.slice p1 N.goal r1) (.slice p2 N.made r2) (.slice p3 N.now r3);have OZ:=β.set4 (w5.heap.size) w9 (.slice p0 N.first r0) (.slice p1 N.goal r1) (.slice p2 N.made r2) (.slice p3 N.now r3);have KZ:=KD.o.set4 (.slice p0 N.first r0) (.slice p1 N.goal r1) (.slice p2 N.made r2) (.slice p3 N.now r3);rw[<-hwz]at OZ KZ;have hs_wz:=OZ.size;have KDZ:=H_ KZ;have ODZ:=H_ (ON.o.outside OZ (.inr (by omega)));have HOZ:=H_ (HO.o.fresh OZ (by omega));have HRZ:=H_ (HR.o.outside OZ (by omega));have KTZ:=H_ (KT.o.outside OZ (.inl (by omega)));have OMZ:=H_ (OM.o.outside OZ (by omega));have HWZ:=H_ hwz;clear OZ KZ hwz;go_upto_region 16 with(rw[<-HWZ.o])
      try rw[<-HWZ.o]
      clear b_0 b_1 b_2 b_3 f_0 f_1 f_2 f_3 HWZ KD OD HO HR KT OM OX ON;have KD:=H_ KDZ.o;have OD:=H_ ODZ.o;have HO:=H_ HOZ.o;have HR:=H_ HRZ.o;have KT:=H_ KTZ.o;have OM:=H_ OMZ.o;clear KDZ ODZ HOZ HRZ KTZ OMZ;go_wp2_with fail
      refine(Δ g _ 2 _ HR.o (by omega)).mono ?_;rintro e w10 ⟨q16,rfl,i_,h_,r_⟩;have hs_w10:=h_.size;replace KT:=H_ (KT.o.outside h_ (.inr (by omega)));replace KD:=H_ (KD.o.outside h_ (.inr (by omega)));replace OD:=H_ (OD.o.outside h_ (.inr (by omega)));replace OM:=H_ (OM.o.outside h_ (.inr (by omega)));replace HO:=H_ (HO.o.trans h_);replace HR:=H_ r_;clear h_ r_;clear i_;cases hq16:q16==0
      ·go_wp2_with fail
       go_meet
       exact H_ ⟨HO.o,HR.o.mono (by omega),KT.o,_,_,_,_,N,_,_,KD.o,OD.o,by omega,by omega,by omega,by omega,by omega⟩
      ·skip
       (have hm1:(0:Int)<=(ms.length:Int)+1:=by omega);(have hm1w:IntKind.i64.wrap ((ms.length:Int)+1)=(ms.length:Int)+1:=by simp[IntKind.wrap,IntKind.bits,IntKind.signed];omega);(have hg0:=HR.o.lt;have hgs:∀ w':World,β g (g+1) w10 w'->w'.cell? (p_ w5 0)=some (.slice p0 N.first r0)/\w'.cell? (p_ w5 1)=some (.slice p1 N.goal r1)/\w'.cell? (p_ w5 2)=some (.slice p2 N.made r2)/\w'.cell? (p_ w5 3)=some (.slice p3 N.now r3):=λw' ho=>⟨(KD.o.outside ho (.inr (by omega))).cell 0,(KD.o.outside ho (.inr (by omega))).cell 1,(KD.o.outside ho (.inr (by omega))).cell 2,(KD.o.outside ho (.inr (by omega))).cell 3⟩);(have hoA:β g (g+1) w10 w10.drew:=(β.refl _ _ _).drewn;have hSA:=hgs _ hoA;have HGS:=H_ hgs;clear hgs;go_upto_region 17 with fail)
       go_region_with (first
        | (go_at_call 72;refine(Δ g _ _ _ (by first | with_reducible exact HR.o | with_reducible exact HR.o.drew) (by omega)).mono ?_;rintro e11 w11 ⟨q17,rfl,i_,h_,r_⟩;obtain⟨i1_,i2_⟩:=i_.lt (by omega);clear i_;obtain⟨j17,rfl⟩:∃ k:Nat,q17=k:=⟨q17.toNat,by omega⟩;(have hj17:j17<=ms.length:=by omega);(have hjI:(j17:Int)<=(mc:Int):=by omega);(have hj0:(0:Int)<=(j17:Int):=by omega);(have ho11:=β.trans hoA h_);(have hS11:=HGS.o _ ho11);(have hs_11:=ho11.size);(have R11:=H_ r_);clear h_ r_)
        | (go_at_call 34;refine(zwo _ _ _ _ _ _ _ _ _ N (ms.take j17) w11 (OD.o.at.outside ho11 (.inr (by omega))) (by omega) (by omega) ((OM.o.outside ho11 (.inr (by omega))).front j17 hj17) (by omega) (by simp;omega)).mono ?_;rintro e12 w12 ⟨x0,x1,x2,x3,rfl,o_,hb_⟩;(have hX:=zx0 (F:=N.first) (G:=N.goal) (ms:=ms.take j17) (by simp;omega));obtain⟨X,hXe⟩:∃ X:Dsk,X=⟨(zbv N.first N.goal).first,(zbv N.first N.goal).goal,ms.take j17,(υ N.first (ms.take j17)).getD []⟩:=⟨_,rfl⟩;rw[<-hXe] at o_ hX;clear hXe;obtain⟨z0,z1,z2,z3,z4,z5,z6,z7,i0,i1,i2,i3⟩:=o_.open;subst i0 i1 i2 i3;(have ho12:=β.trans ho11 (β.grown (g:=g) hb_));(have kd:=zcc KD.o ho12 (.inr (by omega)));(obtain⟨c0,c1,c2,c3⟩:=kd.c4);(obtain⟨f0,f1,f2,f3⟩:=kd.f4);(have KM:=H_ kd);clear kd;(have hs_12:=hb_.size);(have R12:=H_ (R11.o.below hb_ R11.o.lt));(have O12:=H_ o_);clear o_ hb_))
       all_goals (
        go_wp2_with fail
        go_meet
        with_reducible exact H_ (zwj KM.o O12.o hX (HO.o.trans ho12) R12.o (KT.o.outside ho12 (.inr (by omega))) (by omega) (by omega) (by omega) (by omega) (by omega) (by omega) (by omega)))
    case rest=>
     (obtain⟨w20,rfl⟩:=ex_ wc;clear HO HR KT KD OD OX OM;obtain⟨ho_,hr_,kt_,y0,y1,y2,y3,D,l,h,kd_,od_,hds,hl,hl',hh,hdd⟩:=hcut.o;have HO:=H_ ho_;have HR:=H_ hr_;have KT:=H_ kt_;have KD:=H_ kd_;have OD:=H_ od_;have hgdl:w5<w20.heap.size:=kd_.lt;clear hcut ho_ hr_ kt_ kd_ od_;have⟨hwg,hggd⟩:w+1<=w5.heap.size/\g<w5:=by omega);clear hs_w1 lx_ ly_ hl1 hl1' hh1 hsz2 hz16 hs_w3 hs_w4 hs_w5 hs_w6 hs_w7 i1_ i2_ hgu hs0 hm60 hsr hgr hl2 hl2' hh2 hd2 hs_w8 hcap;obtain⟨p0,r0,p1,r1,p2,r2,p3,r3,i0,i1,i2,i3⟩:=OD.o.open;subst i0 i1 i2 i3;go_wp2_with fail
     refine(zf7 g _ n _ HR.o (by omega) (by omega)).mono ?_;rintro e w21 ⟨b18,rfl,h_,r_⟩;have hs_w21:=h_.size;replace KT:=H_ (KT.o.outside h_ (.inr (by omega)));replace KD:=H_ (KD.o.outside h_ (.inr (by omega)));replace OD:=H_ (OD.o.outside h_ (.inr (by omega)));replace HO:=H_ (HO.o.trans h_);replace HR:=H_ r_;clear h_ r_;cases b18
     ·skip
      (have⟨b_0,b_1,b_2,b_3⟩:=KD.o.c4;have⟨t_0,t_1,t_2,t_3⟩:=KT.o.c4;have⟨g_0,g_1,g_2,g_3⟩:=KT.o.f4;have⟨wz,hwz⟩:=x4_ w21 w (.slice p0 D.first r0) (.slice p1 D.goal r1) (.slice p2 D.made r2) (.slice p3 D.now r3);have OZ:=β.set4 w w21 (.slice p0 D.first r0) (.slice p1 D.goal r1) (.slice p2 D.made r2) (.slice p3 D.now r3);have KZ:=KT.o.set4 (.slice p0 D.first r0) (.slice p1 D.goal r1) (.slice p2 D.made r2) (.slice p3 D.now r3);rw[<-hwz]at OZ KZ;obtain⟨z0,z1,z2,z3⟩:=KZ.c4;have HE:=H_ (a_ (HO.o.fresh OZ (by omega)) ((HR.o.outside OZ (by omega)).mono (show _<=c+10000 by omega)));have HF:=H_ ((OD.o.at).outside OZ (.inr (by omega)));have hs_z:=OZ.size;clear KZ OZ;go_wp2_with fail);simp only[<-hwz];clear hwz;refine d_ (v:=.agg #[(.slice p0 D.first r0),(.slice p1 D.goal r1),(.slice p2 D.made r2),(.slice p3 D.now r3)]) (by simp[results,results46,go_sem,z0,z1,z2,z3]) rfl (zdb.mk _ _ _ _ rfl ⟨D,HF.o.wide (by omega) (by omega),by omega,HE.o⟩)
     ·skip
      go_wp2_with fail
      refine(Δ g _ 4 _ HR.o (by omega)).mono ?_;rintro e w22 ⟨q19,rfl,i_,h_,r_⟩;have hs_w22:=h_.size;replace KT:=H_ (KT.o.outside h_ (.inr (by omega)));replace KD:=H_ (KD.o.outside h_ (.inr (by omega)));replace OD:=H_ (OD.o.outside h_ (.inr (by omega)));replace HO:=H_ (HO.o.trans h_);replace HR:=H_ r_;clear h_ r_;clear i_;obtain⟨l1_,u1_,l2_,u2_,l3_,u3_,l4_,u4_,o1_,o2_,o3_,o4_,r1_,r2_,r3_,r4_,d12,d13,d14,d23,d24,d34⟩:=OD.o.ranges;have W1:=H_ o1_.sl;have W2:=H_ o2_.sl;have W3:=H_ o3_.sl;have W4:=H_ o4_.sl;have P3:=H_ o3_;have P4:=H_ o4_;clear o1_ o2_ o3_ o4_;have hsz:D.first.length+D.goal.length+D.made.length+D.now.length<=400:=hds;by_cases e0:q19=0
      ·subst e0
       (have⟨b_0,b_1,b_2,b_3⟩:=KD.o.c4;have⟨f_0,f_1,f_2,f_3⟩:=KD.o.f4;go_upto_region 27 with(at_builtin;refine zhw w22 rfl _ _ _ (by rfl) 3 (0:Int) 1 8 underlying22 ω rfl (by omega) (by omega) (by rfl) P4.o 1 (δ [21]) (by rfl) rfl (by intro u hu;simp[δ] at hu;subst hu;rfl) rfl (by omega) (by omega) ?_;intro v23 w23 lo23 hi23 hown23 hrange23 hout23;obtain⟨a23,c23,rfl⟩:=η hown23;(have kd23:=zcc KD.o hout23 (by omega));(have d_3:=kd23.cell 3);(have e_3:=kd23.free 3);(have H23:=H_ (a_ kd23 (a_ hown23 (a_ hrange23 hout23))));clear kd23 hown23 hrange23 hout23));clear d_3 e_3;obtain⟨_,hown23,hrange23,hout23⟩:=H23.o;clear H23;have hs_23:=hout23.size;replace KD:=H_ (KD.o.outside hout23 (by omega));replace KT:=H_ (KT.o.outside hout23 (.inl (by omega)));replace HO:=H_ (HO.o.fresh hout23 (by omega));replace HR:=H_ (HR.o.outside hout23 (by omega));replace W1:=H_ (W1.o.outside hout23 (by omega));replace W2:=H_ (W2.o.outside hout23 (by omega));replace W3:=H_ (W3.o.outside hout23 (by omega));replace W4:=H_ (show SlI lo23 hi23 w23 _ (D.now++[21]) from by have h_:=hown23.sl;simpa [SlI,δ] using h_);have⟨hlo23,hhi23,hgd23⟩:w.heap.size+1<=lo23/\hi23<=w23/\(w5.heap.size<lo23\/hi23<=w5):=by omega
       clear hown23 hrange23 hout23 b_0 b_1 b_2 b_3 f_0 f_1 f_2 f_3 P3 P4;have⟨wq,hwq⟩:=ex_ (w23.setCell (p_ w5 3) (.slice a23 (D.now.length+1) c23));have OQ:=β.pute w5 3 w23 (.slice a23 (D.now.length+1) c23);have KQ:=Blk.fld3 KD.o (.slice a23 (D.now.length+1) c23);rw[<-hwq]at OQ KQ;have hs_q:=OQ.size;replace KD:=H_ KQ;replace HO:=H_ (HO.o.fresh OQ (by omega));replace HR:=H_ (HR.o.outside OQ (by omega));replace KT:=H_ (KT.o.outside OQ (.inl (by omega)));replace W1:=H_ (W1.o.outside OQ (by omega));replace W2:=H_ (W2.o.outside OQ (by omega));replace W3:=H_ (W3.o.outside OQ (by omega));replace W4:=H_ (W4.o.outside OQ (by omega));simp only[<-hwq];clear hwq OQ KQ;have⟨b_0,b_1,b_2,b_3⟩:=KD.o.c4;have⟨t_0,t_1,t_2,t_3⟩:=KT.o.c4;have⟨g_0,g_1,g_2,g_3⟩:=KT.o.f4;have⟨wz,hwz⟩:=x4_ wq w (.slice p0 D.first r0) (.slice p1 D.goal r1) (.slice p2 D.made r2) (.slice a23 (D.now.length+1) c23);have OZ:=β.set4 w wq (.slice p0 D.first r0) (.slice p1 D.goal r1) (.slice p2 D.made r2) (.slice a23 (D.now.length+1) c23);have KZ:=KT.o.set4 (.slice p0 D.first r0) (.slice p1 D.goal r1) (.slice p2 D.made r2) (.slice a23 (D.now.length+1) c23);rw[<-hwz]at OZ KZ;obtain⟨z0,z1,z2,z3⟩:=KZ.c4;have HE:=H_ (a_ (HO.o.fresh OZ (by omega)) ((HR.o.outside OZ (by omega)).mono (show _<=c+10000 by omega)));have HF:=H_ (((show Θ (w+1) wq wq (.slice p0 D.first r0) (.slice p1 D.goal r1) (.slice p2 D.made r2) (.slice a23 (D.now.length+1) c23) ⟨D.first,D.goal,D.made,D.now++[21]⟩ from ⟨W1.o.wide (by omega) (by omega),W2.o.wide (by omega) (by omega),W3.o.wide (by omega) (by omega),W4.o.wide (by omega) (by omega)⟩)).outside OZ (.inr (by omega)));have hs_z:=OZ.size;clear KZ OZ;go_wp2_with fail
       simp only[<-hwz];clear hwz;refine d_ (v:=.agg #[(.slice p0 D.first r0),(.slice p1 D.goal r1),(.slice p2 D.made r2),(.slice a23 (D.now.length+1) c23)]) (by simp[results,results46,go_sem,z0,z1,z2,z3]) rfl (zdb.mk _ _ _ _ rfl ⟨⟨D.first,D.goal,D.made,D.now++[21]⟩,HF.o.wide (by omega) (by omega),by simp[Dsk.size];omega,HE.o⟩)
      ·by_cases e1:q19=1
       ·subst e1
        (have⟨b_0,b_1,b_2,b_3⟩:=KD.o.c4;have⟨f_0,f_1,f_2,f_3⟩:=KD.o.f4;have KD22:=KD;have⟨w23,hw_⟩:=xa_ w22 #[] 3;have W5:=H_ (zer w22).sl;rw[<-hw_]at W5;obtain⟨hb_,K_,hs_23⟩:=Η hw_;replace HR:=H_ (HR.o.below hb_ HR.o.lt);have hout23:=β.of_below (lo:=g) (hi:=g+1) hb_ (le_ _);replace KD:=H_ (KD.o.outside hout23 (.inr (by omega)));replace KT:=H_ (KT.o.outside hout23 (.inr (by omega)));replace HO:=H_ (HO.o.trans hout23);replace W1:=H_ (W1.o.outside hout23 (.inr (by omega)));replace W3:=H_ (W3.o.outside hout23 (.inr (by omega)));replace W4:=H_ (W4.o.outside hout23 (.inr (by omega)));replace W2:=W5;clear W5 hb_ K_ hout23 b_0 b_1 b_2 b_3 f_0 f_1 f_2 f_3;have H22:=H_ hw_;clear hw_;have k22:=(KD22.o.al (x:=.cells #[] 3));have d_1:=k22.cell 1;have e_1:=k22.free 1;clear k22;go_upto_region 27 with fail);simp only[<-H22.o];clear d_1 e_1 H22 KD22;have⟨wq,hwq⟩:=ex_ (w23.setCell (p_ w5 1) (.slice (q_ w22 0) 0 0));have OQ:=β.pute w5 1 w23 (.slice (q_ w22 0) 0 0);have KQ:=Blk.fld1 KD.o (.slice (q_ w22 0) 0 0);rw[<-hwq]at OQ KQ;have hs_q:=OQ.size;replace KD:=H_ KQ;replace HO:=H_ (HO.o.fresh OQ (by omega));replace HR:=H_ (HR.o.outside OQ (by omega));replace KT:=H_ (KT.o.outside OQ (.inl (by omega)));replace W1:=H_ (W1.o.outside OQ (by omega));replace W2:=H_ (W2.o.outside OQ (by omega));replace W3:=H_ (W3.o.outside OQ (by omega));replace W4:=H_ (W4.o.outside OQ (by omega));simp only[<-hwq];clear hwq OQ KQ;have⟨b_0,b_1,b_2,b_3⟩:=KD.o.c4;have⟨t_0,t_1,t_2,t_3⟩:=KT.o.c4;have⟨g_0,g_1,g_2,g_3⟩:=KT.o.f4;have⟨wz,hwz⟩:=x4_ wq w (.slice p0 D.first r0) (.slice (q_ w22 0) 0 0) (.slice p2 D.made r2) (.slice p3 D.now r3);have OZ:=β.set4 w wq (.slice p0 D.first r0) (.slice (q_ w22 0) 0 0) (.slice p2 D.made r2) (.slice p3 D.now r3);have KZ:=KT.o.set4 (.slice p0 D.first r0) (.slice (q_ w22 0) 0 0) (.slice p2 D.made r2) (.slice p3 D.now r3);rw[<-hwz]at OZ KZ;obtain⟨z0,z1,z2,z3⟩:=KZ.c4;have HE:=H_ (a_ (HO.o.fresh OZ (by omega)) ((HR.o.outside OZ (by omega)).mono (show _<=c+10000 by omega)));have HF:=H_ (((show Θ (w+1) wq wq (.slice p0 D.first r0) (.slice (q_ w22 0) 0 0) (.slice p2 D.made r2) (.slice p3 D.now r3) ⟨D.first,[],D.made,D.now⟩ from ⟨W1.o.wide (by omega) (by omega),W2.o.wide (by omega) (by omega),W3.o.wide (by omega) (by omega),W4.o.wide (by omega) (by omega)⟩)).outside OZ (.inr (by omega)));have hs_z:=OZ.size;clear KZ OZ;go_wp2_with fail
        simp only[<-hwz];clear hwz;refine d_ (v:=.agg #[(.slice p0 D.first r0),(.slice (q_ w22 0) 0 0),(.slice p2 D.made r2),(.slice p3 D.now r3)]) (by simp[results,results46,go_sem,z0,z1,z2,z3]) rfl (zdb.mk _ _ _ _ rfl ⟨⟨D.first,[],D.made,D.now⟩,HF.o.wide (by omega) (by omega),by simp[Dsk.size];omega,HE.o⟩)
       ·by_cases e2:q19=2
        ·subst e2
         (have⟨t_0,t_1,t_2,t_3⟩:=KT.o.c4;have⟨g_0,g_1,g_2,g_3⟩:=KT.o.f4;have⟨wz,hwz⟩:=x4_ w22 w () () () ();have OZ:=β.set4 w w22 () () () ();have KZ:=KT.o.set4 () () () ();rw[<-hwz]at OZ KZ;obtain⟨z0,z1,z2,z3⟩:=KZ.c4;have HE:=H_ (a_ (HO.o.fresh OZ (by omega)) ((HR.o.outside OZ (by omega)).mono (show _<=c+10000 by omega)));have hs_z:=OZ.size;have HF:=H_ (Κ.nils w wz (by omega) wz).at;clear KZ OZ;go_wp2_with fail);simp only[<-hwz];clear hwz;refine d_ (v:=.agg #[(),(),(),()]) (by simp[results,results46,go_sem,z0,z1,z2,z3]) rfl (zdb.mk _ _ _ _ rfl ⟨Dsk.none,HF.o,by simp[Dsk.size,Dsk.none],HE.o⟩)
        ·(have e0':(q19==0)=false:=by simpa using e0);(have e1':(q19==1)=false:=by simpa using e1);(have e2':(q19==2)=false:=by simpa using e2);(have⟨b_0,b_1,b_2,b_3⟩:=KD.o.c4;have⟨f_0,f_1,f_2,f_3⟩:=KD.o.f4;go_upto_region 27 with(at_builtin;refine zhw w22 rfl _ _ _ (by rfl) 67 (.agg #[(0:Int),.bool false,(0:Int)]) 3 24 underlying29 zd8 rfl (by decide) (by decide) (by rfl) P3.o 1 (zbq (⟨-1,false,0⟩:Mv)) (by rfl) rfl (zi8 (⟨-1,false,0⟩:Mv)) rfl (by omega) (by omega) ?_;intro v23 w23 lo23 hi23 hown23 hrange23 hout23;obtain⟨a23,c23,rfl⟩:=η hown23;(have kd23:=zcc KD.o hout23 (by omega));(have d_3:=kd23.cell 2);(have e_3:=kd23.free 2);(have H23:=H_ (a_ kd23 (a_ hown23 (a_ hrange23 hout23))));clear kd23 hown23 hrange23 hout23));clear d_3 e_3;obtain⟨_,hown23,hrange23,hout23⟩:=H23.o;clear H23;have hs_23:=hout23.size;replace KD:=H_ (KD.o.outside hout23 (by omega));replace KT:=H_ (KT.o.outside hout23 (.inl (by omega)));replace HO:=H_ (HO.o.fresh hout23 (by omega));replace HR:=H_ (HR.o.outside hout23 (by omega));replace W1:=H_ (W1.o.outside hout23 (by omega));replace W2:=H_ (W2.o.outside hout23 (by omega));replace W4:=H_ (W4.o.outside hout23 (by omega));replace W3:=H_ (show SlM lo23 hi23 w23 _ (D.made++[⟨-1,false,0⟩]) from by have h_:=hown23.sl;simpa [SlM,mvs] using h_);have⟨hlo23,hhi23,hgd23⟩:w.heap.size+1<=lo23/\hi23<=w23/\(w5.heap.size<lo23\/hi23<=w5):=by omega
         clear hown23 hrange23 hout23 b_0 b_1 b_2 b_3 f_0 f_1 f_2 f_3 P3 P4;have⟨wq,hwq⟩:=ex_ (w23.setCell (p_ w5 2) (.slice a23 (D.made.length+1) c23));have OQ:=β.pute w5 2 w23 (.slice a23 (D.made.length+1) c23);have KQ:=Blk.fld2 KD.o (.slice a23 (D.made.length+1) c23);rw[<-hwq]at OQ KQ;have hs_q:=OQ.size;replace KD:=H_ KQ;replace HO:=H_ (HO.o.fresh OQ (by omega));replace HR:=H_ (HR.o.outside OQ (by omega));replace KT:=H_ (KT.o.outside OQ (.inl (by omega)));replace W1:=H_ (W1.o.outside OQ (by omega));replace W2:=H_ (W2.o.outside OQ (by omega));replace W3:=H_ (W3.o.outside OQ (by omega));replace W4:=H_ (W4.o.outside OQ (by omega));simp only[<-hwq];clear hwq OQ KQ;have⟨b_0,b_1,b_2,b_3⟩:=KD.o.c4;have⟨t_0,t_1,t_2,t_3⟩:=KT.o.c4;have⟨g_0,g_1,g_2,g_3⟩:=KT.o.f4;have⟨wz,hwz⟩:=x4_ wq w (.slice p0 D.first r0) (.slice p1 D.goal r1) (.slice a23 (D.made.length+1) c23) (.slice p3 D.now r3);have OZ:=β.set4 w wq (.slice p0 D.first r0) (.slice p1 D.goal r1) (.slice a23 (D.made.length+1) c23) (.slice p3 D.now r3);have KZ:=KT.o.set4 (.slice p0 D.first r0) (.slice p1 D.goal r1) (.slice a23 (D.made.length+1) c23) (.slice p3 D.now r3);rw[<-hwz]at OZ KZ;obtain⟨z0,z1,z2,z3⟩:=KZ.c4;have HE:=H_ (a_ (HO.o.fresh OZ (by omega)) ((HR.o.outside OZ (by omega)).mono (show _<=c+10000 by omega)));have HF:=H_ (((show Θ (w+1) wq wq (.slice p0 D.first r0) (.slice p1 D.goal r1) (.slice a23 (D.made.length+1) c23) (.slice p3 D.now r3) ⟨D.first,D.goal,D.made++[⟨-1,false,0⟩],D.now⟩ from ⟨W1.o.wide (by omega) (by omega),W2.o.wide (by omega) (by omega),W3.o.wide (by omega) (by omega),W4.o.wide (by omega) (by omega)⟩)).outside OZ (.inr (by omega)));have hs_z:=OZ.size;clear KZ OZ;go_wp2_with fail
         simp only[<-hwz];clear hwz;refine d_ (v:=.agg #[(.slice p0 D.first r0),(.slice p1 D.goal r1),(.slice a23 (D.made.length+1) c23),(.slice p3 D.now r3)]) (by simp[results,results46,go_sem,z0,z1,z2,z3]) rfl (zdb.mk _ _ _ _ rfl ⟨⟨D.first,D.goal,D.made++[⟨-1,false,0⟩],D.now⟩,HF.o.wide (by omega) (by omega),by simp[Dsk.size];omega,HE.o⟩)
theorem zum(a:Ac)(w:World):
    c_ 86 #[.agg #[.int .i64 a.kind,.int .i64 a.step.which,.bool a.step.back,.int .i64 a.step.at_,.int .i64 a.count]] w (.string ⟨(zak a).toArray⟩):=by
  obtain⟨k,m,c⟩:=a;have⟨w0,hw0⟩:=xa_ w #[.int .i64 k,.int .i64 m.which,.bool m.back,.int .i64 m.at_,.int .i64 c] 69;have HB:Q_ (Below w w w0):=by rw[hw0];exact H_ ((B_ _ _).alloc (le_ _) _)
  have K:Q_ (Blk w (.cells #[.int .i64 k,.int .i64 m.which,.bool m.back,.int .i64 m.at_,.int .i64 c] 69) w0):=by rw[hw0];exact H_ (κ w _)
  have⟨c0,c1,c2,c3,c4⟩:=K.o.c5
  go_enter func86,ntmps86
  go_wp2_with fail
  simp only[<-hw0];clear hw0;go_wp2_with fail
  refine(zsv ⟨k,m,c⟩ _).mono ?_;rintro e w1 ⟨rfl,hb⟩;clear c0 c1 c2 c3 c4;replace HB:=HB.ts hb;replace K:=K.kb hb;clear hb;have⟨c0,c1,c2,c3,c4⟩:=K.o.c5;cases hN:zaf ⟨k,m,c⟩
  · have HT:=H_ (show zak ⟨k,m,c⟩=[] by simp[zak,hN])
    clear hN;go_wp2;go_ret;exact⟨zbw (a:=[]) (by rw[HT.o]),HB.o⟩
  · cases h0:k==0
    · cases h1:k==1
      · have h2:(k==2)=true:=by
          cases h2:k==2
          · simp[zaf,h0,h1,h2] at hN
          · rfl
        have HT:=H_ (show zak ⟨k,m,c⟩=zd2 by simp only[zak,hN,h0,h1];rfl);clear hN;go_wp2;go_ret;exact⟨zbw HT.o.symm,HB.o⟩
      · have h2 : (k == 2) = false := by have h : k = 1 := by simpa using h1
                                         subst h;rfl
        by_cases g1:0<=c
        · by_cases g2:c<=99
          · have HT:=H_ (show zak ⟨k,m,c⟩=zbh++Ε c.toNat by simp only[zak,hN,h0,h1];simp[g1,g2])
            clear hN;obtain⟨c,rfl⟩:∃ n:Nat,c=n:=⟨c.toNat,by omega⟩;have hc:c<100:=by omega
            (have l1:=zfe c;clear g1;go_wp2_with (first | (go_at_call 88;refine(zpw _ _ hc).mono ?_;rintro e w' ⟨rfl,rfl⟩) | fail));go_ret;exact⟨zqz c _ HT.o,HB.o⟩
          · have HT:=H_ (show zak ⟨k,m,c⟩=[] by simp only[zak,hN,h0,h1];simp[g2])
            clear hN;go_wp2;go_ret;exact⟨zbw (a:=[]) (by rw[HT.o]),HB.o⟩
        · have HT:=H_ (show zak ⟨k,m,c⟩=[] by simp only[zak,hN,h0,h1];simp[g1])
          clear hN;go_wp2;go_ret;exact⟨zbw (a:=[]) (by rw[HT.o]),HB.o⟩
    · have HT:=H_ (show zak ⟨k,m,c⟩=Β m by simp only[zak,hN,h0];rfl)
      clear hN;go_wp2_with fail
      refine(zmq m _).mono ?_;rintro e w2 ⟨rfl,hb⟩;replace HB:=HB.ts hb;clear hb;go_wp2;go_ret;exact⟨zbw HT.o.symm,HB.o⟩
theorem zq2(n:Nat)(w:World)(h:n<100):
  c_ 54 #[.int .i64 n] w (.string ⟨(Ε n).toArray⟩):=by
 go_enter func54,ntmps54
 go_wp2_with fail
 refine(zne n _ h).mono ?_;rintro e w1 ⟨rfl,hb⟩;go_wp2;go_ret;exact⟨rfl,hb⟩
theorem zpn(a:Ac)(w:World):
    c_ 82 #[.agg #[.int .i64 a.kind,.int .i64 a.step.which,.bool a.step.back,.int .i64 a.step.at_,.int .i64 a.count]] w (.string ⟨(zak a).toArray⟩):=by
  obtain⟨k,m,c⟩:=a;have⟨w0,hw0⟩:=xa_ w #[.int .i64 k,.int .i64 m.which,.bool m.back,.int .i64 m.at_,.int .i64 c] 69;have HB:Q_ (Below w w w0):=by rw[hw0];exact H_ ((B_ _ _).alloc (le_ _) _)
  have K:Q_ (Blk w (.cells #[.int .i64 k,.int .i64 m.which,.bool m.back,.int .i64 m.at_,.int .i64 c] 69) w0):=by rw[hw0];exact H_ (κ w _)
  have⟨c0,c1,c2,c3,c4⟩:=K.o.c5
  go_enter func82,ntmps82
  go_wp2_with fail
  simp only[<-hw0];clear hw0;go_wp2_with fail
  refine(zpy ⟨k,m,c⟩ _).mono ?_;rintro e w1 ⟨rfl,hb⟩;clear c0 c1 c2 c3 c4;replace HB:=HB.ts hb;replace K:=K.kb hb;clear hb;have⟨c0,c1,c2,c3,c4⟩:=K.o.c5;cases hN:zaf ⟨k,m,c⟩
  · have HT:=H_ (show zak ⟨k,m,c⟩=[] by simp[zak,hN])
    clear hN;go_wp2;go_ret;exact⟨zbw (a:=[]) (by rw[HT.o]),HB.o⟩
  · cases h0:k==0
    · cases h1:k==1
      · have h2:(k==2)=true:=by
          cases h2:k==2
          · simp[zaf,h0,h1,h2] at hN
          · rfl
        have HT:=H_ (show zak ⟨k,m,c⟩=zd2 by simp only[zak,hN,h0,h1];rfl);clear hN;go_wp2;go_ret;exact⟨zbw HT.o.symm,HB.o⟩
      · have h2 : (k == 2) = false := by have h : k = 1 := by simpa using h1
                                         subst h;rfl
        cases g:inB c 0 99
        · have HT:=H_ (show zak ⟨k,m,c⟩=[] by simp[inB] at g;simp only[zak,hN,h0,h1];simp;intro g1 g2;omega)
          clear hN;go_wp2_with (go_at_call 101;refine(za0 _ _ _ _).mono ?_;rintro e w' ⟨rfl,rfl⟩)
          go_ret;exact⟨zbw (a:=[]) (by rw[HT.o]),HB.o⟩
        · have g1:0<=c/\c<=99:=by simpa [inB] using g
          (have HT:=H_ (show zak ⟨k,m,c⟩=zbh++Ε c.toNat by simp only[zak,hN,h0,h1];simp[g1]);clear hN;obtain⟨c,rfl⟩:∃ n:Nat,c=n:=⟨c.toNat,by omega⟩;have hc:c<100:=by omega);(have l1:=zfe c;clear g1;go_wp2_with (go_at_call 101;refine(za0 _ _ _ _).mono ?_;rintro e w' ⟨rfl,rfl⟩));refine(zq2 c _ hc).mono ?_;rintro e w2 ⟨rfl,hb⟩;replace HB:=HB.ts hb;clear hb;go_wp2;go_ret;exact⟨zqz c _ HT.o,HB.o⟩
    · have HT:=H_ (show zak ⟨k,m,c⟩=Β m by simp only[zak,hN,h0];rfl)
      clear hN;go_wp2_with fail
      refine(zka m _).mono ?_;rintro e w2 ⟨rfl,hb⟩;replace HB:=HB.ts hb;clear hb;go_wp2;go_ret;exact⟨zbw HT.o.symm,HB.o⟩
theorem zol:(Tryz.prog.info? 156).map (·.size)=some 2:=by kernel_rfl
theorem z0a:liesAt prog Tryz.prog.depth 156 (2/Tryz.prog.cellsOf 156) 0 156 1=true:=by kernel_rfl
theorem zvo:(Tryz.prog.info? 5).map (λi=>(i.zero,i.size,i.bytes))=some (some (.int .u8 0),1,1):=by kernel_rfl
theorem zyi(b:Nat)(w:World)(h0:w.cell? (p_ b 0)=some (.pointer (q_ b 0))):
  Calls prog 185 #[.pointer (q_ b 0)] w λe w'=>e=.returned (.tuple #[])/\w'=w:=by
 obtain⟨j,hj,_⟩:=W_.1 zol
 go_enter func185,ntmps185
 go_wp2;rw[Lib.run_neq_ptr_same w _ underlying154 hj];go_wp2
 go_end0
 exact⟨rfl,rfl⟩
theorem zuc(b:Nat)(w:World)(h0:w.cell? (p_ b 0)=some (.pointer none))(hsh:w.shape? b=some (156,2))(hfz:w.frozen? (p_ b 0)=false):
  Calls prog 185 #[.pointer (q_ b 0)] w λe w'=>e=.returned (.tuple #[])/\w'=w.setCell (p_ b 0) (.pointer (q_ b 0)):=by
 obtain⟨j,hj,hjs⟩:=W_.1 zol
 go_enter func185,ntmps185
 go_wp2;rw[Lib.run_to_unsafe w (p_ b 0) underlying154 underlying218 hj (by rw[hjs];decide) hsh (Nat.zero_lt_succ 1)];simp only[Result.andThen];rw[ee_];go_wp2;rw[run_callFunc_extern func211 (by kernel_rfl) (by kernel_rfl) (by kernel_rfl) (e:=Extern.AbiNoEscape.same) (by kernel_rfl)];rw[Lib.run_noEscape];simp only[Result.andThen];rw[ee_];go_wp2;rw[Lib.run_from_unsafe w (p_ b 0) underlying218 underlying154 hj hsh z0a];simp only[Result.andThen];rw[ee_];go_wp2
 go_end0
 exact⟨rfl,rfl⟩
abbrev Bld(B b:Nat)(bs:List UInt8)(w:World):Prop:=Lib.IsBuilderF 156 5 B b (Lib.byteCells bs) w
theorem zxs(B b:Nat)(bs:List Value)(w:World)(h:Lib.IsBuilderF 156 5 B b bs w):
  Calls prog 185 #[.pointer (q_ b 0)] w λe w'=>e=.returned (.tuple #[])/\(Lib.BuilderAtF 156 5 B b (.pointer (q_ b 0)) bs w'/\Below B w w'):=by
 rcases h with h|h
 ·refine(zuc b w h.cell0 h.shape h.frozen0).mono ?_
  rintro e w' ⟨rfl,rfl⟩;exact⟨rfl,h.used _,(B_ B w).setCell (p:=p_ b 0) h.1 _⟩
 ·refine(zyi b w h.cell0).mono ?_
  rintro e w' ⟨rfl,rfl⟩;exact⟨rfl,h,B_ B _⟩
theorem z0v(w:World):Bld w w [] (w.alloc (.cells #[.pointer none,()] 156)):=
 .inl ⟨le_ _,(),ba_ w _,⟨rfl,.inl ⟨rfl,rfl⟩⟩,by simp[Value.ownBlock]⟩
theorem ztf(B b:Nat)(l:List UInt8)(w:World)(h:Bld B b l w)(hBw:B<=w.heap.size):
  Calls prog 144 #[.pointer (q_ b 0)] w λe w'=>e=.returned (.string ⟨l.toArray⟩)/\Below B w w':=by
 refine(Tryz.Builder_String_any_k B b l w h hBw).mono ?_;rintro e w' ⟨rfl,_,h2,_⟩;exact⟨rfl,h2⟩
theorem BldAt.below {T:TypeId} {b:Nat} {p:Value} {bs:List Value}(h:Lib.BuilderAtF T e B b p bs w)(hb:Below w w w'):Lib.BuilderAtF T e B b p bs w':=by
 obtain⟨hB,v,hbk,⟨hlen,hown⟩,hne⟩:=h;have hl:=(L_.1 hbk).1;refine⟨hB,v,(hb.block b hl).trans hbk,⟨hlen,?_⟩,hne⟩;rcases hown with h|⟨g,cap,cur,fz,h1,h2,h3,h4⟩
 ·exact .inl h
 ·exact .inr ⟨g,cap,cur,fz,h1,h2,(hb.block g (L_.1 h3).1).trans h3,h4⟩
theorem Bld.below {b:Nat} {bs:List UInt8}(h:Bld B b bs w)(hb:Below w w w'):Bld B b bs w':=
 h.imp (λh=>BldAt.below h hb) (λh=>BldAt.below h hb)
theorem zzp(a:Ac):(zak a).length<=7:=by
 unfold zak;have h1:=ziq a.step;have h2:=zfe a.count.toNat
 repeat' split
 all_goals simp[zbh,zd2]
 all_goals omega
def RetSt(P:ByteArray->World->Prop)(e:Ending)(w':World):Prop:=∃ s:ByteArray,e=.returned (.string s)/\P s w'
theorem SlB.below(h:SlB lo hi w v xs)(hb:Below B w w')(hB:hi<=B):SlB lo hi w' v xs:=⟨h.1.below hb hB,h.2⟩
theorem SlB.wide(h:SlB lo hi w v xs)(hh:hi<=hi'):SlB lo hi' w v xs:=⟨h.1.wide (le_ _) hh,h.2⟩
theorem znw(z:Nat)(h:z<9):∃ s:ByteArray,(#[.string ⟨#[110,111,119]⟩,.string ⟨#[102,105,114,115,116]⟩,.string ⟨#[103,111,97,108]⟩,.string ⟨#[109,111,118,101,115]⟩,.string ⟨#[100,111,110,101]⟩,.string ⟨#[101,113,117,97,108]⟩,.string ⟨#[116,114,97,99,101]⟩,.string ⟨#[112,114,111,111,102]⟩,.string ⟨#[101,110,100,115]⟩]:Array Value)[z]?=some (.string s)/\s.size<=8:=by
 match z,h with
 | 0,_=>exact⟨_,rfl,by decide⟩
 | 1,_=>exact⟨_,rfl,by decide⟩
 | 2,_=>exact⟨_,rfl,by decide⟩
 | 3,_=>exact⟨_,rfl,by decide⟩
 | 4,_=>exact⟨_,rfl,by decide⟩
 | 5,_=>exact⟨_,rfl,by decide⟩
 | 6,_=>exact⟨_,rfl,by decide⟩
 | 7,_=>exact⟨_,rfl,by decide⟩
 | 8,_=>exact⟨_,rfl,by decide⟩
theorem zyz(z:Nat)(h:z<8):∃ s:ByteArray,(#[.string ⟨#[]⟩,.string ⟨#[98,97,99,107]⟩,.string ⟨#[98,97,99,107,32,48,49]⟩,.string ⟨#[43,53]⟩,.string ⟨#[32,110,111,119]⟩,.string ⟨#[115,105,109,112,108,101,32,49]⟩,.string ⟨#[45,49,49,64,51]⟩,.string ⟨#[43,57,57,64,49]⟩]:Array Value)[z]?=some (.string s)/\s.size<=8:=by
 match z,h with
 | 0,_=>exact⟨_,rfl,by decide⟩
 | 1,_=>exact⟨_,rfl,by decide⟩
 | 2,_=>exact⟨_,rfl,by decide⟩
 | 3,_=>exact⟨_,rfl,by decide⟩
 | 4,_=>exact⟨_,rfl,by decide⟩
 | 5,_=>exact⟨_,rfl,by decide⟩
 | 6,_=>exact⟨_,rfl,by decide⟩
 | 7,_=>exact⟨_,rfl,by decide⟩
theorem zyy(g c lo hi:Nat)(d0 d1 d2 d3:Value)(D:Dsk)(w:World)(h:Rd g w c)(hc:c<=500000)(hx:Θ lo hi w d0 d1 d2 d3 D)(hh:hi<=w)(hap:g+1<=lo)(hm:D.size<=10000):
  Calls prog 47 #[.pointer (q_ g 0),ο d0 d1 d2 d3] w (RetSt λs w'=>s.size<=20/\β g (g+1) w w'/\Rd g w' (c+200)):=by
 have hg:=h.lt;have⟨w0,hw0⟩:=xa_ w #[d0,d1,d2,d3] 31;obtain⟨hb0,KD_,hs0⟩:=Η hw0;have KD:=H_ KD_;have HR:=H_ (h.below hb0 hg);have HX:=H_ (hx.below hb0 hh);have HO:=H_ ((β.refl g (g+1) w).below hb0 (le_ _));clear h hx hb0 KD_
 go_enter func47,ntmps47
 go_wp2_with fail
 simp only[<-hw0];clear hw0;refine(Δ g c 5 _ HR.o (by omega)).mono ?_;rintro e w1 ⟨q,rfl,i_,ho,hr⟩;clear i_;have hs1:=ho.size;replace HO:=H_ (HO.o.trans ho);replace KD:=H_ (KD.o.outside ho (.inr (by omega)));replace HX:=H_ (HX.o.outside ho (.inr (by omega)));replace HR:=H_ hr;have hlt:=HR.o.lt;clear ho hr;cases h0:q==0
 ·cases h1:q==1
  ·cases h2:q==2
   ·(have⟨k0,k1,k2,k3⟩:=KD.o.c4);go_wp2_with fail
    clear h0 h1 h2 k0 k1 k2 k3;refine(zlo g _ lo hi _ _ _ _ D _ HR.o (by omega) HX.o (by omega) hap hm).mono ?_;rintro e w3 ⟨A,rfl,h_,r_⟩;have hs3:=h_.size;replace HO:=H_ (HO.o.trans h_);replace HR:=H_ r_;clear h_ r_;go_wp2_with fail
    refine(zpn A _).mono ?_;rintro e w4 ⟨rfl,hb⟩;have hs4:=hb.size;replace HO:=H_ (HO.o.below hb (by omega));replace HR:=H_ (HR.o.below hb HR.o.lt);have hl:=zzp A;clear hb;go_wp2;go_ret;exact⟨_,rfl,by show (zak A).toArray.size<=20;simp;omega,HO.o,HR.o.mono (by omega)⟩
   ·go_wp2_with fail
    clear h0 h1 h2;refine(Δ g _ 8 _ (Rd.al HR.o _) (by omega)).mono ?_;rintro e w8 ⟨z,rfl,iz_,ho,hr⟩;obtain⟨iz,iz'⟩:=iz_.lt (by omega);clear iz_;obtain⟨z,rfl⟩:∃ n:Nat,z=n:=⟨z.toNat,by omega⟩;have jz:z<8:=by omega
    clear iz iz';obtain⟨sz,hsz,hss⟩:=zyz z jz;have hz:=((zie ho hlt).cell z).trans hsz;have HQ:=H_ (β.trans (HO.o.below (ζ w1 (.cells #[.string ⟨#[]⟩,.string ⟨#[98,97,99,107]⟩,.string ⟨#[98,97,99,107,32,48,49]⟩,.string ⟨#[43,53]⟩,.string ⟨#[32,110,111,119]⟩,.string ⟨#[115,105,109,112,108,101,32,49]⟩,.string ⟨#[45,49,49,64,51]⟩,.string ⟨#[43,57,57,64,49]⟩] 9)) (by omega)) ho);have R8:=H_ hr;have p6:(z:Int)<8:=by omega
    clear ho hr hsz;go_wp2;go_ret;exact⟨_,rfl,by omega,HQ.o,R8.o.mono (by omega)⟩
  ·go_wp2_with fail
   clear h0 h1;refine(Δ g _ 9 _ (Rd.al HR.o _) (by omega)).mono ?_;rintro e w8 ⟨z,rfl,iz_,ho,hr⟩;obtain⟨iz,iz'⟩:=iz_.lt (by omega);clear iz_;obtain⟨z,rfl⟩:∃ n:Nat,z=n:=⟨z.toNat,by omega⟩;have jz:z<9:=by omega
   clear iz iz';obtain⟨sz,hsz,hss⟩:=znw z jz;have hz:=((zie ho hlt).cell z).trans hsz;have HQ:=H_ (β.trans (HO.o.below (ζ w1 (.cells #[.string ⟨#[110,111,119]⟩,.string ⟨#[102,105,114,115,116]⟩,.string ⟨#[103,111,97,108]⟩,.string ⟨#[109,111,118,101,115]⟩,.string ⟨#[100,111,110,101]⟩,.string ⟨#[101,113,117,97,108]⟩,.string ⟨#[116,114,97,99,101]⟩,.string ⟨#[112,114,111,111,102]⟩,.string ⟨#[101,110,100,115]⟩] 9)) (by omega)) ho);have R8:=H_ hr;have p6:(z:Int)<9:=by omega
   clear ho hr hsz;go_wp2;go_ret;exact⟨_,rfl,by omega,HQ.o,R8.o.mono (by omega)⟩
 ·go_wp2_with fail
  clear h0;refine(Δ g _ 9 _ (Rd.al HR.o _) (by omega)).mono ?_;rintro e w8 ⟨z,rfl,iz_,ho,hr⟩;obtain⟨iz,iz'⟩:=iz_.lt (by omega);clear iz_;obtain⟨z,rfl⟩:∃ n:Nat,z=n:=⟨z.toNat,by omega⟩;have jz:z<9:=by omega
  clear iz iz';obtain⟨sz,hsz,hss⟩:=znw z jz;have hz:=((zie ho hlt).cell z).trans hsz;have HQ:=H_ (β.trans (HO.o.below (ζ w1 (.cells #[.string ⟨#[110,111,119]⟩,.string ⟨#[102,105,114,115,116]⟩,.string ⟨#[103,111,97,108]⟩,.string ⟨#[109,111,118,101,115]⟩,.string ⟨#[100,111,110,101]⟩,.string ⟨#[101,113,117,97,108]⟩,.string ⟨#[116,114,97,99,101]⟩,.string ⟨#[112,114,111,111,102]⟩,.string ⟨#[101,110,100,115]⟩] 9)) (by omega)) ho);have R8:=H_ hr;have p6:(z:Int)<9:=by omega
  clear ho hr hsz;go_wp2;go_ret;exact⟨_,rfl,by omega,HQ.o,R8.o.mono (by omega)⟩
def zb9(l:List (List UInt8)):List Value:=l.map λx=>.string ⟨x.toArray⟩
theorem zg1(l:List (List UInt8)):(zb9 l).length=l.length:=by simp[zb9]
theorem zd9(l:List (List UInt8)):∀ u∈zb9 l,u.oneCell'=true:=by
 intro u hu;simp only[zb9,aa_]at hu;obtain⟨x,_,rfl⟩:=hu;rfl
theorem zek(l m:List (List UInt8)):zb9 (l++m)=zb9 l++zb9 m:=by simp[zb9]
abbrev SlT(lo hi:Nat)(w:World)(v:Value)(xs:List (List UInt8)):Prop:=Sl 1 lo hi w v xs.length (zb9 xs)
theorem SlT.get {a:Option Addr} {xs:List (List UInt8)}(h:SlT lo hi w (.slice a n cap) xs)(i:Nat)(hi':i<xs.length):
  ∃ b off,a=some ⟨b,off,none⟩/\lo<=b/\b<hi/\b<w.heap.size/\w.cell? (p_ b (off+i))=some (.string ⟨xs[i].toArray⟩):=by
 obtain⟨a',cap',e,_,_,_,_,hc⟩:=h;injection e with e1 _ _;subst e1;obtain⟨b,off,e2,k1,k2,k3,k4⟩:=hc i (by rw[zg1];exact hi');exact⟨b,off,e2,k1,k2,k3,by rw[k4];simp[zb9,hi']⟩
def zf5:=@SlT.get
def zgf:List (List UInt8)->List UInt8
 | []=>[]
 | x :: r=>r.foldl (λs y=>s++44 :: y) x
theorem zy9(l:List (List UInt8))(hm:∀ x∈l,x.length<=1000):(zgf l).length<=1001*l.length:=by
 cases l with
 | nil=>simp[zgf]
 | cons x r=>
  have h1:=hm x (by simp)
  have h:∀ (r:List (List UInt8)) (s:List UInt8),(∀ y∈r,y.length<=1000)->(r.foldl (λs y=>s++44 :: y) s).length<=s.length+1001*r.length:=by
   intro r
   induction r with
   | nil=>intro s _;simp
   | cons y r ih=>
    intro s hy;have k1:=hy y (by simp);have k2:=ih (s++44 :: y) λz hz=>hy z (by simp[hz])
    simp only[List.foldl_cons,I_,n_]at k2 ⊢;omega
  have:=h r x λy hy=>hm y (by simp[hy])
  simp only[zgf,I_];omega
theorem zpx(l:List (List UInt8)):Lib.join l [44]=zgf l:=by
 cases l with
 | nil=>rfl
 | cons x r=>
  have h:∀ (r:List (List UInt8)) (s:List UInt8),Lib.join (s :: r) [44]=r.foldl (λs y=>s++44 :: y) s:=by
   intro r
   induction r with
   | nil=>intro s;simp[Lib.join]
   | cons y r ih=>
    intro s;rw[List.foldl_cons,<-ih];cases r<;>simp[Lib.join]
  exact h r x
theorem zt5(lo hi n cap:Nat)(a:Option Addr)(xs:List (List UInt8))(w:World)(hx:SlT lo hi w (.slice a n cap) xs)(h0:xs≠[])(hl:xs.length<=100)(hm:∀ x∈xs,x.length<=1000):
  c_ 94 #[.slice a n cap,.string ⟨#[44]⟩] w (.string ⟨(zgf xs).toArray⟩):=by
 obtain⟨_,_,hq,hn,_⟩:=π hx;injection hq with _ q1 q2;subst q1 q2;have hpos:0<xs.length:=by cases xs with | nil=>exact absurd rfl h0 | cons=>simp
 obtain⟨b,o,rfl,_,_,hb,_⟩:=hx.get 0 hpos
 have e1:((xs.map λx=>(⟨x.toArray⟩:ByteArray)).map λz=>z.data.toList)=xs:=by
  rw[List.map_map];exact(List.map_congr_left (g:=id) λx _=>by simp).trans (List.map_id _)
 have h:=Tryz.strings_Join b o cap (xs.map λx=>⟨x.toArray⟩) ⟨#[44]⟩ w (λj x hj=>by
  rw[dz_]at hj;obtain⟨y,hy,rfl⟩:=W_.1 hj;obtain⟨hjl,rfl⟩:=a3_.1 hy;obtain⟨b',o',e,_,_,_,hc⟩:=hx.get j hjl;injection e with e;injection e with e2 e3;subst e2 e3
  exact hc) hb (by simp;omega) (by simpa using hn) (by
   rw[e1];have:=zy9 xs hm;rw[show (⟨#[44]⟩:ByteArray).data.toList=[44] from rfl,zpx];omega)
 rw[e1,show (⟨#[44]⟩:ByteArray).data.toList=[44] from rfl,zpx,X_]at h;exact h
theorem SlT.below {xs:List (List UInt8)}(h:SlT lo hi w v xs)(hb:Below B w w')(hB:hi<=B):SlT lo hi w' v xs:=zch h hb hB
def zaq:=@SlT.below
theorem SlT.outside {xs:List (List UInt8)}(h:SlT lo hi w v xs)(hb:β lo' hi' w w')(hd:hi<=lo'\/hi'<=lo):SlT lo hi w' v xs:=zhc h hb hd
def ze3:=@SlT.outside
theorem SlT.wide {xs:List (List UInt8)}(h:SlT lo hi w v xs)(h1:lo'<=lo)(h2:hi<=hi'):SlT lo' hi' w v xs:=zg6 h h1 h2
theorem SlT.shape {xs:List (List UInt8)}(h:SlT lo hi w v xs):∃ a cap,v=.slice a xs cap/\xs.length<=cap/\cap<=maxLen:=π h
def zi4:=@SlT.shape
def Ρ(lo hi e:Nat)(w:World)(v:Value)(xs:List (List UInt8)):Prop:=Own 1 lo hi e w v xs.length (zb9 xs)
theorem Ρ.sl {e:Nat} {xs:List (List UInt8)}(h:Ρ lo hi e w v xs):SlT lo hi w v xs:=zct h
theorem Ρ.below {e:Nat} {xs:List (List UInt8)}(h:Ρ lo hi e w v xs)(hb:Below B w w')(hB:hi<=B):Ρ lo hi e w' v xs:=zfw h hb hB
theorem Ρ.outside {e:Nat} {xs:List (List UInt8)}(h:Ρ lo hi e w v xs)(hb:β lo' hi' w w')(hd:hi<=lo'\/hi'<=lo):Ρ lo hi e w' v xs:=zk3 h hb hd
theorem Ρ.wide2 {e:Nat} {xs:List (List UInt8)}(h:Ρ lo hi e w v xs)(hl:lo'<=lo)(hh:hi<=hi'):Ρ lo' hi' e w v xs:=za3 h hl hh
theorem z1g(v:Value)(xs:List Int)(w:World)(h:SlB 0 w w v xs):
  Calls prog 29 #[v] w λe w'=>∃ (a b c__ d vl:Value) (D:Dsk) (L:List (List UInt8)),e=.returned (.tuple #[ο a b c__ d,vl])/\Below w w w'/\Θ 0 w' w' a b c__ d D/\D.size<=1000/\SlT 0 w' w' vl L/\L.length<=41/\∀ x∈L,x.length<=20:=by
 have⟨w0,hw0⟩:=xa_ w #[(),(),(),()] 31;obtain⟨hb0,KS_,hs0⟩:=Η hw0;have KS:=H_ KS_;have HX:=H_ (SlB.wide (SlB.below h hb0 (le_ _)) hb0.size);have HW:=H_ hb0;have HW0:=H_ hw0;clear h hb0 KS_ hw0
 go_enter func29,ntmps29
 go_upto_region 1 with(rw[<-HW0.o])
 try rw[<-HW0.o]
 clear HW0;go_wp2_with fail
 refine(z02 _ xs _ HX.o).mono ?_;rintro e w1 ⟨_,rfl,g,rfl,hg,hb,hr⟩;have hs1:=hb.size;replace HW:=HW.tr hb (by omega);replace KS:=H_ (KS.o.below hb (by omega));have HR:=H_ hr;have hgl1:=hr.lt;clear hb hr HX;go_wp2_with fail
 refine(zzy g 0 12 _ HR.o (by omega) (by omega)).mono ?_;rintro e w2 ⟨y0,y1,y2,y3,rfl,D,od_,hds,h_,r_⟩;have hs2:=h_.size;replace HW:=H_ (ε HW.o h_ (by omega) (by omega));replace KS:=H_ (KS.o.outside h_ (.inl (by omega)));replace HR:=H_ r_;have OD:=H_ od_;clear h_ r_ od_;obtain⟨p0,p1,p2,p3,p4,p5,p6,p7,i0,i1,i2,i3,l0,l1,l2,l3⟩:=OD.o.shapes;subst i0 i1 i2 i3;clear l0 l1 l2 l3;have⟨w3,hw3⟩:=xa_ w2 #[(.slice p0 D.first p1),(.slice p2 D.goal p3),(.slice p4 D.made p5),(.slice p6 D.now p7)] 31;obtain⟨hb3,KD_,hs3⟩:=Η hw3;have KD:=H_ KD_;replace HW:=HW.tr hb3 (by omega);replace KS:=H_ (KS.o.below hb3 (by omega));replace OD:=H_ (OD.o.below hb3 (le_ _));replace HR:=H_ (HR.o.below hb3 HR.o.lt);have⟨gd,hgd⟩:=ex_ w2.heap.size;rw[<-hgd]at KD hs3 hs2;have OD':Q_ (Θ w1 gd w3 (.slice p0 D.first p1) (.slice p2 D.goal p3) (.slice p4 D.made p5) (.slice p6 D.now p7) D):=H_ (hgd ▸ OD.o);clear OD;have HW3:=H_ hw3;clear hb3 KD_ hw3;have⟨w4,hw4⟩:=xa_ w3 #[] 9;obtain⟨hb4,_,hs4⟩:=Η hw4
 have OA:Q_ (Ρ w3 (w3+1) 9 w4 (.slice (q_ w3 0) 0 0) []):=by
  rw[hw4];exact H_ (show Own 1 w3 (w3+1) 9 _ _ _ _ from ς 1 9 w3 [] 0 (by omega) rfl)
 replace HW:=HW.tr hb4 (by omega);replace KS:=H_ (KS.o.below hb4 (by omega));replace KD:=H_ (KD.o.below hb4 (by omega));have OD:=H_ (OD'.o.below hb4 (by omega));replace HR:=H_ (HR.o.below hb4 HR.o.lt);have HW4:=H_ hw4;clear hb4 hw4 OD';have⟨hgw,hgd1,hw1d⟩:w.heap.size<g/\gd<w3/\w1.heap.size<=gd:=by omega
 go_wp2_with (first | rw[<-HW3.o] | rw[<-HW4.o])
 try rw[<-HW4.o]
 try simp only[<-hgd]
 clear HW3 HW4 hgd;refine(Δ g _ 7 _ HR.o (by omega)).mono ?_;rintro e w5 ⟨q5,rfl,i_,h_,r_⟩;have hs5:=h_.size;replace HW:=H_ (ε HW.o h_ (by omega) (by omega));replace KS:=H_ (KS.o.outside h_ (.inl (by omega)));replace KD:=H_ (KD.o.outside h_ (.inr (by omega)));replace OD:=H_ (OD.o.outside h_ (.inr (by omega)));replace OA:=H_ (Ρ.outside OA.o h_ (.inr (by omega)));replace HR:=H_ r_;clear h_ r_;obtain⟨i1_,i2_⟩:=i_.lt (by omega);clear i_;obtain⟨k5,rfl⟩:∃ k:Nat,q5=k:=⟨q5.toNat,by omega⟩;go_wp2_with fail
 go_loopw [6,7] (λov kv wr=>∃ (j:Nat) (ls:List (List UInt8)) (oa:Option Addr) (oc:Nat),ov=.slice oa ls oc/\kv=.int .i64 j/\j<=6/\ls.length+j<=6/\Q_ (w4<=wr.heap.size/\Below w w wr/\Rd g wr (20000+1000*(6-j))/\Blk w (.cells #[(),(),(),()] 31) wr/\Blk gd (.cells #[(.slice p0 D.first p1),(.slice p2 D.goal p3),(.slice p4 D.made p5),(.slice p6 D.now p7)] 31) wr/\Θ w1 gd wr (.slice p0 D.first p1) (.slice p2 D.goal p3) (.slice p4 D.made p5) (.slice p6 D.now p7) D/\(∀ x∈ls,x.length<=20)/\∃ lo_ hi_,Ρ lo_ hi_ 9 wr (.slice oa ls oc) ls/\gd<lo_/\lo_<=hi_/\hi_<=wr.heap.size)) (λ_ k _=>(intOf k).toNat)
 case atStart=>exact⟨k5,[],_,_,rfl,rfl,by omega,by simp;omega,H_ ⟨by omega,HW.o,HR.o.mono (by omega),KS.o,KD.o,OD.o,by simp,_,_,OA.o,by omega,by omega,by omega⟩⟩
 case round=>
  clear HW HR KS KD OD OA;obtain⟨j,ls,oa,oc,rfl,rfl,hj6,haj,HQ⟩:=hrel;obtain⟨hsr,hw_,hr_,ks_,kd_,od_,hls_,lo_,hi_,oa_,hlo1,hlohi,hhi1⟩:=HQ.o;have HW:=H_ hw_;have HR:=H_ hr_;have KS:=H_ ks_;have KD:=H_ kd_;have OD:=H_ od_;have OA:=H_ oa_;have HLS:=H_ hls_;clear HQ hw_ hr_ ks_ kd_ od_ oa_ hls_;by_cases hpos:0<j
  ·have⟨k_0,k_1,k_2,k_3⟩:=KD.o.c4
   go_wp2_with fail
   clear k_0 k_1 k_2 k_3;refine(zyy g _ w1 gd _ _ _ _ D _ HR.o (by omega) OD.o (by omega) (by omega) (by omega)).mono ?_;rintro e w7 ⟨s7,rfl,hsz7,h_,r_⟩;obtain⟨t,rfl⟩:∃ l:List UInt8,s7=⟨l.toArray⟩:=⟨s7.data.toList,by cases s7;simp⟩;have htl:t.length<=20:=by have h:t.toArray.size<=20:=hsz7;simpa using h
   have hs7:=h_.size;replace HW:=H_ (ε HW.o h_ (by omega) (by omega));replace KS:=H_ (KS.o.outside h_ (.inl (by omega)));replace KD:=H_ (KD.o.outside h_ (.inr (by omega)));replace OD:=H_ (OD.o.outside h_ (.inr (by omega)));replace OA:=H_ (Ρ.outside OA.o h_ (.inr (by omega)));replace HR:=H_ r_
   have HLT:=H_ (show ∀ x∈ls++[t],x.length<=20 from λx hx=>by
    rcases E_.1 hx with hx|hx
    ·exact HLS.o x hx
    ·simp only[k_]at hx
     rw[hx];exact htl)
   clear h_ r_ hsz7;go_wp2_with (at_builtin;refine zhw w7 rfl _ _ 26 rfl 9 (.string ⟨#[]⟩) 1 16 underlying26 zce rfl (by decide) (by decide) rfl OA.o 1 [.string ⟨t.toArray⟩] rfl rfl (by intro u hu;simp only[k_] at hu;subst hu;rfl) rfl (by omega) (by omega) ?_)
   intro v9 w9 lo9 hi9 hown9 hrange9 hout9;have hs_9:=hout9.size;obtain⟨y9,yc9,hv9⟩:=η hown9;subst hv9;replace HW:=H_ (ε HW.o hout9 (by omega) (by omega));replace KS:=H_ (KS.o.outside hout9 (.inl (by omega)));replace KD:=H_ (KD.o.outside hout9 (.inl (by omega)));replace OD:=H_ (OD.o.outside hout9 (.inl (by omega)));replace HR:=H_ (HR.o.outside hout9 (by omega));have OA9:Q_ (Ρ lo9 hi9 9 w9 (.slice y9 (ls++[t]).length yc9) (ls++[t])):=H_ (by have h_:=hown9;show Own 1 _ _ _ _ _ (ls++[t]).length _;rw[n_,zek];exact h_);clear hown9 hout9 OA;go_wp2;go_roundw
   case rel=>exact⟨j-1,ls++[t],_,_,by simp,by congr 1;omega,by omega,by simp;omega,H_ ⟨by omega,HW.o,HR.o.mono (by omega),KS.o,KD.o,OD.o,HLT.o,lo9,hi9,OA9.o,by omega,by omega,by omega⟩⟩
   case measure=>simp[intOf];omega
  ·obtain rfl:j=0:=by omega
   go_wp2_with fail
   refine(zf7 g _ _ _ HR.o (by omega) (by omega)).mono ?_;rintro e w8 ⟨b8,rfl,h_,r_⟩;have hs8:=h_.size;replace HW:=H_ (ε HW.o h_ (by omega) (by omega));replace KS:=H_ (KS.o.outside h_ (.inl (by omega)));replace KD:=H_ (KD.o.outside h_ (.inr (by omega)));replace OD:=H_ (OD.o.outside h_ (.inr (by omega)));replace OA:=H_ (Ρ.outside OA.o h_ (.inr (by omega)));clear h_ r_ HR;cases b8
   ·skip
    have⟨k_0,k_1,k_2,k_3⟩:=KD.o.c4;have⟨s_0,s_1,s_2,s_3⟩:=KS.o.c4;have⟨t_0,t_1,t_2,t_3⟩:=KS.o.f4;have⟨wa,hwa⟩:=x4_ w8 w (.slice p0 D.first p1) (.slice p2 D.goal p3) (.slice p4 D.made p5) (.slice p6 D.now p7);have OZ:=β.set4 w w8 (.slice p0 D.first p1) (.slice p2 D.goal p3) (.slice p4 D.made p5) (.slice p6 D.now p7);have KSA:=KS.o.set4 (.slice p0 D.first p1) (.slice p2 D.goal p3) (.slice p4 D.made p5) (.slice p6 D.now p7);rw[<-hwa]at OZ KSA;have hs_a:=OZ.size;obtain⟨zs0,zs1,zs2,zs3⟩:=KSA.c4;have HE:=H_ (ε HW.o OZ (le_ _) (by omega));have ODZ:=H_ ((OD.o.outside OZ (.inr (by omega))).wide (aw_ _) (show _<=wa.heap.size by omega));have SAZ:=H_ ((ze3 (Ρ.sl OA.o) OZ (.inr (by omega))).wide (aw_ _) (show _<=wa.heap.size by omega));clear OZ KSA;go_wp2;simp only[<-hwa];clear hwa;refine d_ (v:=.tuple #[.agg #[(.slice p0 D.first p1),(.slice p2 D.goal p3),(.slice p4 D.made p5),(.slice p6 D.now p7)],.slice oa ls oc]) (by simp[results,results29,go_sem,zs0,zs1,zs2,zs3]) rfl ⟨_,_,_,_,_,D,ls,rfl,HE.o,ODZ.o,hds,SAZ.o,by omega,HLS.o⟩
   ·(obtain⟨i0,hi0,hz0,hz1,hz2⟩:=b8_ zce);(have h41:(41:Nat)*16<=140737488355328:=by omega);go_wp2_with ((at_make;refine wpList_make_full _ rfl _ _ 26 rfl w8.heap.size 9 i0 (.string ⟨#[]⟩) 1 underlying26 hi0 hz0 hz1 .i64 .i64 41 41 41 rfl rfl rfl rfl ?c1 ?c2 ?c3 ?c4))
    case c1=>rw[hz2];omega
    case c2=>simp[maxLen]
    case c3=>exact le_ _
    case c4=>
     intro w9 hown hg9;have hb9:Below w8 w8 w9:=(B_ _ _).grown hg9 (le_ _) (by simp);rw[toList_madeCells_one]at hown;have OB:Q_ (Ρ w8 w9 9 w9 (.slice (q_ w8 0) 41 41) (List.replicate 41 [])):=H_ ⟨by simpa [zb9] using hown,λg hg=>(hown.lt g hg).2⟩;have hs9:=hb9.size;replace HW:=HW.tr hb9 (by omega);replace KS:=H_ (KS.o.below hb9 (by omega));replace KD:=H_ (KD.o.below hb9 (by omega));replace OD:=H_ (OD.o.below hb9 (by omega));replace HLS:=H_ (show ∀ x∈List.replicate 41 ([]:List UInt8),x.length<=20 from λx hx=>by rw[(List.mem_replicate.1 hx).2];simp);clear hown hg9 hb9 hi0 hz0 hz1 hz2 OA;have⟨k_0,k_1,k_2,k_3⟩:=KD.o.c4;have⟨s_0,s_1,s_2,s_3⟩:=KS.o.c4;have⟨t_0,t_1,t_2,t_3⟩:=KS.o.f4;have⟨wa,hwa⟩:=x4_ w9 w (.slice p0 D.first p1) (.slice p2 D.goal p3) (.slice p4 D.made p5) (.slice p6 D.now p7);have OZ:=β.set4 w w9 (.slice p0 D.first p1) (.slice p2 D.goal p3) (.slice p4 D.made p5) (.slice p6 D.now p7);have KSA:=KS.o.set4 (.slice p0 D.first p1) (.slice p2 D.goal p3) (.slice p4 D.made p5) (.slice p6 D.now p7);rw[<-hwa]at OZ KSA;have hs_a:=OZ.size;obtain⟨zs0,zs1,zs2,zs3⟩:=KSA.c4;have HE:=H_ (ε HW.o OZ (le_ _) (by omega));have ODZ:=H_ ((OD.o.outside OZ (.inr (by omega))).wide (aw_ _) (show _<=wa.heap.size by omega));have SAZ:=H_ ((ze3 (Ρ.sl OB.o) OZ (.inr (by omega))).wide (aw_ _) (show _<=wa.heap.size by omega));clear OZ KSA;go_wp2;simp only[<-hwa];clear hwa;refine d_ (v:=.tuple #[.agg #[(.slice p0 D.first p1),(.slice p2 D.goal p3),(.slice p4 D.made p5),(.slice p6 D.now p7)],.slice (q_ w8 0) 41 41]) (by simp[results,results29,go_sem,zs0,zs1,zs2,zs3]) rfl ⟨_,_,_,_,_,D,List.replicate 41 [],rfl,HE.o,ODZ.o,hds,SAZ.o,by simp,HLS.o⟩
def leafW:List UInt8->Nat
 | []=>0
 | c :: r=>if c.toNat=33 then min 2 (r.length+1) else if c.toNat=91 then (match (c :: r).findIdx? (·==93) with | some i=>i+1 | none=>0) else 1
def wordF(s:List UInt8):Option Int:=match s with
 | [c]=>if 97<=c.toNat/\c.toNat<=99 then some (16+((c.toNat:Int)-97)) else (ze0 [c]).map λt=>((t:Nat):Int)
 | s=>(ze0 s).map λt=>((t:Nat):Int)
theorem zw0:∀ t,t<16->(Υ t).length<=5/\(Υ t)≠[]/\leafW (Υ t)=(Υ t).length/\wordF (Υ t)=some ((t:Nat):Int)/\((Υ t).head?=some 33->(Υ t).length=2)/\((Υ t).head?=some 91->(Υ t).findIdx? (·==93)=some ((Υ t).length-1)) /\
  ((Υ t).head?≠some 33->(Υ t).head?≠some 91->(Υ t).length=1)/\(Υ t).head?≠some 40:=by decide +kernel
theorem ends_len {p:PR}(h:Ends p){s r:List UInt8}{e:List Int}(hs:p s=some (e,r)):r.length+1<=s.length:=by
 obtain⟨k,h1,h2,h3⟩:=h _ _ _ hs;rw[h3,af_];omega
def ψ:KT->Nat->List UInt8
 | .leaf n,_=>if n<=15 then Υ n.toNat else [UInt8.ofNat (97+(n-16).toNat)]
 | .star t,_=>ψ t 3++[42]
 | .bin p a b,s=>if (if p then 1 else 2)<s then 40 :: (ψ a (if p then 1 else 2)++(if p then 43 else 59) :: ψ b ((if p then 1 else 2)+1))++[41]
   else ψ a (if p then 1 else 2)++(if p then 43 else 59) :: ψ b ((if p then 1 else 2)+1)
theorem zkj(n:Int)(s:Nat):ψ (.leaf n) s=if n<=15 then Υ n.toNat else [UInt8.ofNat (97+(n-16).toNat)]:=rfl
theorem zjf(t:KT)(s:Nat):ψ (.star t) s=ψ t 3++[42]:=rfl
theorem zi2(a b:KT):ψ (.bin true a b) 1=ψ a 1++43 :: ψ b 2:=rfl
theorem zmr(a b:KT):ψ (.bin true a b) 2=40 :: (ψ (.bin true a b) 1)++[41]:=rfl
theorem zmb(a b:KT):ψ (.bin true a b) 3=40 :: (ψ (.bin true a b) 1)++[41]:=rfl
theorem zit(a b:KT):ψ (.bin false a b) 1=ψ a 2++59 :: ψ b 3:=rfl
theorem zl4(a b:KT):ψ (.bin false a b) 2=ψ a 2++59 :: ψ b 3:=rfl
theorem zlp(a b:KT):ψ (.bin false a b) 3=40 :: (ψ (.bin false a b) 1)++[41]:=rfl
theorem zio:∀ (t:KT),ψ t 0=ψ t 1
 | .leaf _=>rfl
 | .star _=>rfl
 | .bin true a b=>rfl
 | .bin false a b=>rfl
def KT.leaves:KT->Nat
 | .leaf _=>1
 | .star t=>t.leaves
 | .bin _ a b=>a.leaves+b.leaves
theorem zjr:∀ t:KT,2*t.leaves<=t.size+1
 | .leaf _=>by simp[KT.leaves,KT.size]
 | .star t=>by have:=zjr t;simp[KT.leaves,KT.size];omega
 | .bin _ a b=>by have:=zjr a;have:=zjr b;simp[KT.leaves,KT.size];omega
theorem zj2:∀ {t:KT},t.ok 0=true->∀ s,s<=3->(ψ t s).length<=3*t.size+2*t.leaves
 | .leaf n,h,s,_=>by
  simp only[KT.ok,j_,t_]at h;rw[zkj];simp only[KT.size,KT.leaves]
  split
  ·have:=(zw0 n.toNat (by omega)).1
   omega
  ·simp
 | .star t,h,s,_=>by
  have:=zj2 (t:=t) h 3 (by omega);rw[zjf];simp only[KT.size,KT.leaves,n_,I_,an_];omega
 | .bin p a b,h,s,_=>by
  simp only[KT.ok,j_]at h;have ha:=zj2 h.1;have hb:=zj2 h.2;simp only[KT.size,KT.leaves];have hs:s=0\/s=1\/s=2\/s=3:=by omega
  cases p
  ·have ha2:=ha 2 (by omega)
   have hb3:=hb 3 (by omega);rcases hs with rfl|rfl|rfl|rfl<;>simp[ψ]<;>omega
  ·have ha2:=ha 1 (by omega)
   have hb3:=hb 2 (by omega);rcases hs with rfl|rfl|rfl|rfl<;>simp[ψ]<;>omega
theorem zef {t:KT}(h:t.ok 0=true)(hs:t.size<=40)(s:Nat)(h3:s<=3):(ψ t s).length<=199:=by
 have h1:=zj2 h s h3;have h2:=zjr t;omega
def znp(l:List Nat)(r:List UInt8):Prop:=∀ c t,r=c :: t->c.toNat ∉ l
theorem znp.mono {l m:List Nat} {r:List UInt8}(h:znp m r)(hs:∀ x∈l,x∈m):znp l r:=λc t e hc=>h c t e (hs _ hc)
section
theorem zm2(w:World)(x:Nat):
  Sem.run prog (convert 40 9 (.slice (q_ w 0) 1 1)) (w.alloc (.cells #[.int .u8 (x:Int)] 5))=.ok (.string ⟨#[UInt8.ofNat x]⟩) (w.alloc (.cells #[.int .u8 (x:Int)] 5)):=by
 have h:=zjc (P:=prog) 40 9 5 underlying40 underlying5 underlying9 w [(x:Int)];simp only[I_,an_,df_,c3_,U_,b0_]at h;exact h
theorem zb5(l t:List UInt8):ByteArray.mk l.toArray++ByteArray.mk t.toArray=ByteArray.mk (l++t).toArray:=by
 apply cd_;simp
theorem SlI.cellS {b off:Nat}(h:SlI lo hi w (.slice (q_ b off) n cap) xs)(i:Nat)(hi':i<xs.length):w.cell? (p_ b (off+i))=some (.int .i64 xs[i]):=by
 obtain⟨b',off',e,_,_,_,hc⟩:=h.get i hi';injection e with e;injection e with e1 e2;subst e1 e2;exact hc
def TxtC(t:KT):Prop:=∀ (k lo hi:Nat) (v:Value) (w:World),SlI lo hi w v t.post->t.ok 0=true->t.size<=40->k<=3->hi<=w ->
 c_ 103 #[v,.int .i64 k] w (.string ⟨(ψ t k).toArray⟩)
theorem z0t:∀ t:KT,TxtC t:=by
 intro t
 induction t with
 | leaf n=>
  intro k lo hi v w hx hok hs hk hh;simp only[KT.ok,j_,t_]at hok;obtain⟨hn0,hn18⟩:=hok;obtain⟨a,cap,rfl,_,_⟩:=π hx;obtain⟨b,off,rfl,hb1,hb2,hb3,hcell⟩:=hx.get 0 (by simp[KT.post]);have hc1:w.cell? (p_ b off)=some (.int .i64 n):=hcell;have hlen:(KT.leaf n).post.length=1:=rfl;rw[hlen];clear hx hlen hcell;by_cases h15:n<=15
  ·obtain⟨m,rfl⟩:∃ m:Nat,n=m:=⟨n.toNat,by omega⟩
   have HT:=H_ (show ψ (.leaf (m:Int)) k=Υ m by rw[zkj,x_ h15];rfl)
   go_enter func103,ntmps103
   go_wp2_with fail
   refine(zk2 m (by omega) w).mono ?_;rintro e w1 ⟨rfl,hb⟩;have HB:=H_ hb;clear hb;go_wp2;go_ret;exact⟨by rw[HT.o];rfl,HB.o⟩
  ·have h3:n=16\/n=17\/n=18:=by omega
   rcases h3 with rfl|rfl|rfl
   ·(have hcv:Sem.run prog (convert 40 9 (.slice (q_ w 0) 1 1)) (w.alloc (.cells #[.int .u8 97] 5))=.ok (.string ⟨#[97]⟩) (w.alloc (.cells #[.int .u8 97] 5)):=zm2 w 97);go_enter func103,ntmps103
    go_wp2;go_ret;exact⟨rfl,ζ _ _⟩
   ·(have hcv:Sem.run prog (convert 40 9 (.slice (q_ w 0) 1 1)) (w.alloc (.cells #[.int .u8 98] 5))=.ok (.string ⟨#[98]⟩) (w.alloc (.cells #[.int .u8 98] 5)):=zm2 w 98);go_enter func103,ntmps103
    go_wp2;go_ret;exact⟨rfl,ζ _ _⟩
   ·(have hcv:Sem.run prog (convert 40 9 (.slice (q_ w 0) 1 1)) (w.alloc (.cells #[.int .u8 99] 5))=.ok (.string ⟨#[99]⟩) (w.alloc (.cells #[.int .u8 99] 5)):=zm2 w 99);go_enter func103,ntmps103
    go_wp2;go_ret;exact⟨rfl,ζ _ _⟩
 | star x ih=>
  intro k lo hi v w hx hok hs hk hh;have hokx:x.ok 0=true:=hok;simp only[KT.size]at hs;have hlen:(KT.star x).post.length=x.size+1:=by rw[zaz];rfl
  obtain⟨a,cap,rfl,_,hcm⟩:=π hx;unfold maxLen at hcm;obtain⟨b,off,rfl⟩:=hx.notNil (by omega)
  have HSX:Q_ (SlI lo hi w (.slice (q_ b off) x.size cap) x.post):=H_ (by
   have h2:=hx.sub 0 x.size (aw_ _) (by omega)
   simpa [KT.post,<-zaz] using h2)
  have hc1:w.cell? (p_ b (off+x.size))=some (.int .i64 21):=by
   have:=hx.cellS x.size (by omega);rw[this];simp[KT.post,<-zaz]
  have e4:x.size<=cap:=by obtain⟨_,_,e,h,_⟩:=hx;injection e with _ _ e;omega
  have HTX:=H_ (show ψ (.star x) k=ψ x 3++[42] from zjf x k);rw[hlen];have hb3:(ψ x 3).length<=199:=zef hokx (by omega) 3 (by omega);have IH:=H_ ih;clear ih hok hx
  go_enter func103,ntmps103
  go_wp2_with fail
  refine(IH.o 3 lo hi _ w HSX.o hokx (by omega) (by omega) hh).mono ?_;rintro e w1 ⟨rfl,hb⟩;have HB:=H_ hb;clear hb;go_wp2;go_ret;exact⟨by rw[HTX.o,<-zb5];rfl,HB.o⟩
 | bin p x y ihx ihy=>
  intro k lo hi v w hx hok hs hk hh;simp only[KT.ok,j_]at hok;obtain⟨hokx,hoky⟩:=hok;simp only[KT.size]at hs;have hlen:(KT.bin p x y).post.length=x.size+y.size+1:=by rw[zaz];rfl
  have HALF:=H_ (show Calls prog 156 #[v] w (zir λa b w2=>Below w w w2/\SlI lo hi w2 a x.post/\SlI lo hi w2 b y.post) from
   (zg4 lo hi v 0 p x y w hx (by omega) hoky).mono (by rintro e w2 ⟨va,vb,rfl,⟨m,rfl⟩,ha,hb⟩;exact⟨va,vb,rfl,ai_ (B_ _ _) m,ha,hb⟩))
  obtain⟨a,cap,rfl,_,hcm⟩:=π hx;unfold maxLen at hcm;obtain⟨b,off,rfl⟩:=hx.notNil (by omega)
  have hc1:w.cell? (p_ b (off+(x.size+y.size)))=some (.int .i64 (KT.op p)):=by
   have:=hx.cellS (x.size+y.size) (by omega);rw[this];simp[KT.post,<-zaz]
  rw[hlen]at HALF ⊢;have hb1:(ψ x 1).length<=199:=zef hokx (by omega) 1 (by omega);have hb2:(ψ x 2).length<=199:=zef hokx (by omega) 2 (by omega);have hc2:(ψ y 2).length<=199:=zef hoky (by omega) 2 (by omega);have hc3:(ψ y 3).length<=199:=zef hoky (by omega) 3 (by omega);have IHX:=H_ ihx;have IHY:=H_ ihy;clear ihx ihy hx;cases p
  ·have hop:KT.op false=19:=rfl
   rw[hop]at hc1
   have HSIMPLE:=H_ (show ¬2<k->ψ (.bin false x y) k=ψ x 2++[59]++ψ y 3 from λh=>by
    (have h3:k=0\/k=1\/k=2:=by omega);rcases h3 with rfl|rfl|rfl<;>first|(exfalso;omega)|simp[zio,zit,zl4,zlp])
   have HBR:=H_ (show 2<k->ψ (.bin false x y) k=[40]++(ψ x 2++[59]++ψ y 3)++[41] from λh=>by
    (have h3:k=2\/k=3:=by omega);rcases h3 with rfl|rfl<;>first|(exfalso;omega)|simp[zio,zit,zl4,zlp])
   go_enter func103,ntmps103
   go_wp2_with fail
   refine HALF.o.mono ?_;rintro e w2 ⟨va,vb,rfl,h_,ha,hb⟩;have hs2:=h_.size;have HB:=H_ h_;have HA:=H_ ha;have HY:=H_ hb;obtain⟨aa,ac,rfl,_,_⟩:=π ha;obtain⟨ba,bc,rfl,_,_⟩:=π hb;clear h_ ha hb HALF;go_wp2_with fail
   refine(IHX.o 2 lo hi _ w2 HA.o hokx (by omega) (by omega) (by omega)).mono ?_;rintro e w3 ⟨rfl,hb⟩;have hs3:=hb.size;replace HB:=HB.ts hb;replace HY:=H_ (HY.o.below hb (by omega));clear hb HA;go_wp2_with fail
   refine(IHY.o 3 lo hi _ w3 HY.o hoky (by omega) (by omega) (by omega)).mono ?_;rintro e w4 ⟨rfl,hb⟩;replace HB:=HB.ts hb;clear hb HY;by_cases hk1:2<k
   ·(have hk2:(2:Int)<(k:Int):=by omega);have HF:=H_ (HBR.o hk1);go_wp2;go_ret;exact⟨by rw[HF.o,<-zb5,<-zb5,<-zb5,<-zb5];rfl,HB.o⟩
   ·(have hk2:¬(2:Int)<(k:Int):=by omega);have HF:=H_ (HSIMPLE.o hk1);go_wp2;go_ret;exact⟨by rw[HF.o,<-zb5,<-zb5];rfl,HB.o⟩
  ·have hop:KT.op true=20:=rfl
   rw[hop]at hc1
   have HSIMPLE:=H_ (show ¬1<k->ψ (.bin true x y) k=ψ x 1++[43]++ψ y 2 from λh=>by
    (have h3:k=0\/k=1\/k=2:=by omega);rcases h3 with rfl|rfl|rfl<;>first|(exfalso;omega)|simp[zio,zi2,zmr,zmb])
   have HBR:=H_ (show 1<k->ψ (.bin true x y) k=[40]++(ψ x 1++[43]++ψ y 2)++[41] from λh=>by
    (have h3:k=2\/k=3:=by omega);rcases h3 with rfl|rfl<;>first|(exfalso;omega)|simp[zio,zi2,zmr,zmb])
   go_enter func103,ntmps103
   go_wp2_with fail
   refine HALF.o.mono ?_;rintro e w2 ⟨va,vb,rfl,h_,ha,hb⟩;have hs2:=h_.size;have HB:=H_ h_;have HA:=H_ ha;have HY:=H_ hb;obtain⟨aa,ac,rfl,_,_⟩:=π ha;obtain⟨ba,bc,rfl,_,_⟩:=π hb;clear h_ ha hb HALF;go_wp2_with fail
   refine(IHX.o 1 lo hi _ w2 HA.o hokx (by omega) (by omega) (by omega)).mono ?_;rintro e w3 ⟨rfl,hb⟩;have hs3:=hb.size;replace HB:=HB.ts hb;replace HY:=H_ (HY.o.below hb (by omega));clear hb HA;go_wp2_with fail
   refine(IHY.o 2 lo hi _ w3 HY.o hoky (by omega) (by omega) (by omega)).mono ?_;rintro e w4 ⟨rfl,hb⟩;replace HB:=HB.ts hb;clear hb HY;by_cases hk1:1<k
   ·(have hk2:(1:Int)<(k:Int):=by omega);have HF:=H_ (HBR.o hk1);go_wp2;go_ret;exact⟨by rw[HF.o,<-zb5,<-zb5,<-zb5,<-zb5];rfl,HB.o⟩
   ·(have hk2:¬(1:Int)<(k:Int):=by omega);have HF:=H_ (HSIMPLE.o hk1);go_wp2;go_ret;exact⟨by rw[HF.o,<-zb5,<-zb5];rfl,HB.o⟩
theorem z05(lo hi:Nat)(v:Value)(t:KT)(w:World)(hx:SlI lo hi w v t.post)(hok:t.ok 0=true)(hs:t.size<=40)(hh:hi<=w):
  c_ 53 #[v] w (.string ⟨(ψ t 1).toArray⟩):=by
 have hkv:=zmz hok hs;have hl:t.post.length<=40:=by rw[zaz];exact hs
 obtain⟨a,cap,rfl,_,_⟩:=π hx;have HX:=H_ hx;clear hx
 go_enter func53,ntmps53
 go_wp2_with fail
 refine(zag _ _ _ t.post _ HX.o (by omega)).mono ?_;rintro e w1 ⟨rfl,rfl⟩;rw[hkv];go_wp2_with fail
 refine(z0t t 0 lo hi _ w HX.o hok hs (by omega) hh).mono ?_;rintro e w2 ⟨rfl,hb⟩;have HB:=H_ hb;have HT:=H_ (zio t);clear hb;go_wp2;go_ret;exact⟨by rw[HT.o];rfl,HB.o⟩
end
def zbr(e:List Int):List UInt8:=if ν e then ψ (Τ e) 1 else []
theorem zqs {t:KT}(h:t.ok 0=true)(hs:t.size<=40):zbr t.post=ψ t 1:=by
 rw[zbr,x_ (zmz h hs),zee h]
theorem zlu(lo hi:Nat)(v:Value)(es:List Int)(w:World)(hx:SlI lo hi w v es)(hm:es.length<=1048576)(hh:hi<=w):
  c_ 53 #[v] w (.string ⟨(zbr es).toArray⟩):=by
 cases hk:ν es with
 | true=>
  obtain⟨t,h1,h2,_,h4⟩:=zex hk;subst h2;rw[zqs h1 h4];exact z05 lo hi v t w hx h1 h4 hh
 | false=>
  have HT:=H_ (show zbr es=[] by rw[zbr,hk];rfl);obtain⟨a,cap,rfl,_,_⟩:=π hx;have HX:=H_ hx;clear hx
  go_enter func53,ntmps53
  go_wp2_with fail
  refine(zag _ _ _ es _ HX.o (by omega)).mono ?_;rintro e w1 ⟨rfl,rfl⟩;rw[hk];go_wp2;go_ret;exact⟨by rw[HT.o];rfl,B_ _ _⟩
end Go.Proofs.YtfnnhimopokpnaaGreatDoor
