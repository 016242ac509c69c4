/- Lemmas for this seat; no condition. -/
import Derived.Test.YtfnnhimopokpnaaGreatDoorHDAH
namespace Go.Proofs.YtfnnhimopokpnaaGreatDoor
open Go.RowKit Proofs.Tryz
set_option maxRecDepth 100000
set_option maxHeartbeats 0
set_option linter.all false
theorem z2k(lo hi lo' hi':Nat)(v v':Value)(xs ys:List Int)(w:World)(hx:SlI lo hi w v xs)(hy:SlI lo' hi' w v' ys)(hm:xs.length<=1048576):
  Calls prog 28 #[v,v'] w λe w'=>e=.returned (.bool (eqL xs ys))/\∃ m,w'=w.drewN m:=by
 obtain⟨a,cap,rfl,hcap,hcm,hc⟩:=hx.open;obtain⟨a',cap',rfl,hcap',hcm',hc'⟩:=hy.open;clear hx hcm hy hcm' hcap hcap';by_cases hl:xs.length=ys.length
 ·have HL:=H_ hl
  have hl1:((xs.length:Int) !=ys.length)=false:=by simp[hl]
  have hm':ys.length<=1048576:=by omega
  clear hl
  go_enter func28,ntmps28
  go_wp2;go_loopw [5] (λi wr=>∃ k m:Nat,k<=xs.length/\i=.int .i64 k/\(∀ j (h1:j<k) (h2:j<xs.length) (h3:j<ys.length),xs[j]=ys[j])/\wr=w.drewN m) (λi _=>xs.length-(intOf i).toNat)
  case atStart=>exact⟨0,0,by omega,rfl,by intro j h;omega,rfl⟩
  case round=>
   obtain⟨k,m,hk,rfl,hj,rfl⟩:=hrel;have HJ:=H_ hj;clear hj;by_cases hlt:k<xs.length
   ·(have hlt':k<ys.length:=by have:=HL.o;omega);obtain⟨b,off,rfl,_,_,hbs,hck⟩:=hc k hlt;obtain⟨b',off',rfl,_,_,hbs',hck'⟩:=hc' k hlt';clear hc hc';by_cases he:xs[k]=ys[k]
    ·(have HE:=H_ he);(have he1:(xs[k] !=ys[k])=false:=by simp[he]);clear he;go_wp2
     go_quiet (fail)
     go_wp2;go_roundw
     case rel=>
      refine⟨k+1,m+nq,by omega,by go_num,?_,by first | rfl | rw[cq_]⟩;intro j h1 h2 h3;rcases bi_ j k with h|h
      ·exact HJ.o j h h2 h3
      ·(obtain rfl:j=k:=by omega);exact HE.o
     case measure=>simp[intOf];omega
    ·(have HE:=H_ he);(have he1:(xs[k] !=ys[k])=true:=by simp[he]);clear he;go_wp2
     go_quiet (fail)
     go_wp2;go_ret;exact⟨χ (zrb hlt hlt' HE.o).symm,m+nq,by first | rfl | rw[cq_]⟩
   ·go_wp2
    go_ret;exact⟨χ (zsf HL.o λj h1 h2=>HJ.o j (by omega) h1 h2).symm,m,rfl⟩
 ·have HL:=H_ hl
  have hl1:((xs.length:Int) !=ys.length)=true:=by simp;omega
  clear hl hc hc'
  go_enter func28,ntmps28
  go_wp2;go_ret;exact⟨χ (zk1 HL.o).symm,0,rfl⟩
theorem zg8(lo hi lo' hi':Nat)(v v':Value)(xs:List Int)(w:World)(hx:SlI lo hi w v xs)(hy:SlI lo' hi' w v' xs)(hm:xs.length<=1048576):
  c_ 28 #[v,v'] w true:=by
 refine(z2k lo hi lo' hi' v v' xs xs w hx hy hm).mono ?_;rintro e w' ⟨rfl,m,rfl⟩;rw[zhu];exact⟨rfl,ai_ (B_ _ _) _⟩
theorem z0d(lo hi lo' hi':Nat)(v v':Value)(w:World)(hx:SlM lo hi w v [])(hy:SlM lo' hi' w v' []):
  c_ 62 #[v,v'] w true:=by
 obtain⟨a,cap,rfl,_,_⟩:=hx.shape;obtain⟨a',cap',rfl,_,_⟩:=hy.shape;clear hx hy
 go_enter func62,ntmps62
 go_wp2;go_loopw [5] (λi wr=>i=.int .i64 0/\wr=w) (λ_ _=>0)
 case atStart=>exact⟨rfl,rfl⟩
 case round=>
  obtain⟨rfl,rfl⟩:=hrel;go_wp2;go_ret;exact⟨rfl,B_ _ _⟩
theorem zvr(lo hi lo' hi':Nat)(a b c d a' b' c' d':Value)(D:Dsk)(w:World)(hx:Θ lo hi w a b c d D)(hy:Θ lo' hi' w a' b' c' d' D)(hh:hi<=w)(hh':hi'<=w)(hm:D.size<=1048576)(hz:D.made=[]):
  c_ 22 #[ο a b c d,ο a' b' c' d'] w true:=by
 unfold Dsk.size at hm;have HM:Q_ (∀ {lo hi:Nat} {w:World} {v:Value},SlM lo hi w v D.made->SlM lo hi w v []):=H_ (by rw[hz];exact λh=>h);clear hz;have HX:=H_ hx;have HY:=H_ hy;clear hx hy;have⟨w0,hw0⟩:=ex_ ((w.alloc (.cells #[a,b,c,d] 31)).alloc (.cells #[a',b',c',d'] 31));have HB0:Q_ (Below w w w0):=by rw[hw0];exact H_ (((B_ _ _).alloc (le_ _) _).alloc (by simp) _)
 have K1:Q_ (Blk w (.cells #[a,b,c,d] 31) w0):=by
  rw[hw0];exact H_ ((κ w _).below ((B_ (w.alloc _).heap.size _).alloc (le_ _) _) (by simp))
 have K2:Q_ (Blk (w+1) (.cells #[a',b',c',d'] 31) w0):=by
  have:=κ (w.alloc (.cells #[a,b,c,d] 31)) (.cells #[a',b',c',d'] 31);rw[μ]at this;rw[hw0];exact H_ this
 have hsz:w+2<=w0.heap.size:=by rw[hw0];simp
 go_enter func22,ntmps22
 go_wp2_with fail
 simp only[<-hw0];clear hw0;refine(zg8 _ _ _ _ _ _ D.first _ (HX.o.first.below HB0.o hh) (HY.o.first.below HB0.o hh') (by omega)).mono ?_;rintro e w1 ⟨rfl,hb⟩;have HB1:=HB0.tr hb (by omega);replace K1:=H_ (K1.o.below hb (by omega));replace K2:=H_ (K2.o.below hb (by omega));have hs1:=hb.size;have c0:=K1.o.cell 1;have c1:=K2.o.cell 1;clear hb;go_wp2_with fail
 clear c0 c1;refine(zg8 _ _ _ _ _ _ D.goal _ (HX.o.goal.below HB1.o hh) (HY.o.goal.below HB1.o hh') (by omega)).mono ?_;rintro e w2 ⟨rfl,hb⟩;have HB2:=HB1.tr hb (by omega);replace K1:=H_ (K1.o.below hb (by omega));replace K2:=H_ (K2.o.below hb (by omega));have hs2:=hb.size;have c0:=K1.o.cell 2;have c1:=K2.o.cell 2;clear hb;go_wp2_with fail
 clear c0 c1;refine(z0d _ _ _ _ _ _ _ (HM.o (HX.o.made.below HB2.o hh)) (HM.o (HY.o.made.below HB2.o hh'))).mono ?_;rintro e w3 ⟨rfl,hb⟩;have HB3:=HB2.tr hb (by omega);replace K1:=H_ (K1.o.below hb (by omega));replace K2:=H_ (K2.o.below hb (by omega));have c0:=K1.o.cell 3;have c1:=K2.o.cell 3;clear hb;go_wp2_with fail
 refine(zg8 _ _ _ _ _ _ D.now _ (HX.o.now.below HB3.o hh) (HY.o.now.below HB3.o hh') (by omega)).mono ?_;rintro e w4 ⟨rfl,hb⟩;have HB4:=HB3.ts hb;clear hb;go_wp2;go_ret;exact⟨rfl,HB4.o⟩
theorem zr1(a b c d:Value)(w:World)(lo hi:Nat)(hx:Θ lo hi w a b c d ⟨[],[],[],[]⟩)(hh:hi<=w):
  c_ 24 #[ο a b c d] w true:=by
 have⟨w0,hw0⟩:=xa_ w #[a,b,c,d] 31;have HB:Q_ (Below w w w0):=by rw[hw0];exact H_ ((B_ _ _).alloc (le_ _) _)
 have HX:=H_ (hx.below HB.o hh);have hsz:w<=w0.heap.size:=HB.o.size;clear hx
 go_enter func24,ntmps24
 go_wp2_with fail
 simp only[<-hw0];clear hw0;refine(zvr lo hi 0 w0 a b c d () () () () ⟨[],[],[],[]⟩ _ HX.o ((Κ.nils 0 _ (aw_ _) _).at) (by omega) (le_ _) (by simp[Dsk.size]) rfl).mono ?_;rintro e w1 ⟨rfl,hb⟩;go_wp2;go_ret;exact⟨rfl,HB.o.trans (hb.mono hsz)⟩
theorem zwr(lo hi lo' hi':Nat)(v v':Value)(xs:List Mv)(w:World)(hx:SlM lo hi w v xs)(hy:SlM lo' hi' w v' xs)(hm:xs.length<=1048576):
  c_ 62 #[v,v'] w true:=by
 have HX:=H_ hx;have HY:=H_ hy;obtain⟨a,cap,rfl,_,hcm⟩:=hx.shape;obtain⟨a',cap',rfl,_,hcm'⟩:=hy.shape;clear hx hy hcm hcm';have hl1:((xs.length:Int) !=xs.length)=false:=by simp
 go_enter func62,ntmps62
 go_wp2;go_loopw [5] (λi wr=>∃ k m:Nat,k<=xs.length/\i=.int .i64 k/\wr=w.drewN m) (λi _=>xs.length-(intOf i).toNat)
 case atStart=>exact⟨0,0,by omega,rfl,rfl⟩
 case round=>
  obtain⟨k,m,hk,rfl,rfl⟩:=hrel;by_cases hlt:k<xs.length
  ·obtain⟨b,off,rfl,_,_,hbs,c1,c2,c3⟩:=HX.o.get k hlt
   obtain⟨b',off',rfl,_,_,hbs',c1',c2',c3'⟩:=HY.o.get k hlt;obtain⟨p,q,r,hp,hq,hr⟩:∃ p q r,p=xs[k].which/\q=xs[k].back/\r=xs[k].at_:=⟨_,_,_,rfl,rfl,rfl⟩;rw[<-hp]at c1 c1';rw[<-hq]at c2 c2';rw[<-hr]at c3 c3';clear hp hq hr;have e1:(p==p)=true:=by simp
   have e2:(q==q)=true:=by simp
   have e3:(r==r)=true:=by simp
   go_wp2
   go_quiet (fail)
   go_wp2;go_roundw
   case rel=>exact⟨k+1,m+nq,by omega,by go_num,by first | rfl | rw[cq_]⟩
   case measure=>simp[intOf];omega
  ·go_wp2
   go_ret;exact⟨rfl,ai_ (B_ _ _) _⟩
theorem zgt(lo hi lo' hi':Nat)(a b c d a' b' c' d':Value)(D:Dsk)(w:World)(hx:Θ lo hi w a b c d D)(hy:Θ lo' hi' w a' b' c' d' D)(hh:hi<=w)(hh':hi'<=w)(hm:D.size<=1048576):
  c_ 22 #[ο a b c d,ο a' b' c' d'] w true:=by
 unfold Dsk.size at hm;have HX:=H_ hx;have HY:=H_ hy;clear hx hy;have⟨w0,hw0⟩:=ex_ ((w.alloc (.cells #[a,b,c,d] 31)).alloc (.cells #[a',b',c',d'] 31));have HB0:Q_ (Below w w w0):=by rw[hw0];exact H_ (((B_ _ _).alloc (le_ _) _).alloc (by simp) _)
 have K1:Q_ (Blk w (.cells #[a,b,c,d] 31) w0):=by
  rw[hw0];exact H_ ((κ w _).below ((B_ (w.alloc _).heap.size _).alloc (le_ _) _) (by simp))
 have K2:Q_ (Blk (w+1) (.cells #[a',b',c',d'] 31) w0):=by
  have:=κ (w.alloc (.cells #[a,b,c,d] 31)) (.cells #[a',b',c',d'] 31);rw[μ]at this;rw[hw0];exact H_ this
 have hsz:w+2<=w0.heap.size:=by rw[hw0];simp
 go_enter func22,ntmps22
 go_wp2_with fail
 simp only[<-hw0];clear hw0;refine(zg8 _ _ _ _ _ _ D.first _ (HX.o.first.below HB0.o hh) (HY.o.first.below HB0.o hh') (by omega)).mono ?_;rintro e w1 ⟨rfl,hb⟩;have HB1:=HB0.tr hb (by omega);replace K1:=H_ (K1.o.below hb (by omega));replace K2:=H_ (K2.o.below hb (by omega));have hs1:=hb.size;have c0:=K1.o.cell 1;have c1:=K2.o.cell 1;clear hb;go_wp2_with fail
 clear c0 c1;refine(zg8 _ _ _ _ _ _ D.goal _ (HX.o.goal.below HB1.o hh) (HY.o.goal.below HB1.o hh') (by omega)).mono ?_;rintro e w2 ⟨rfl,hb⟩;have HB2:=HB1.tr hb (by omega);replace K1:=H_ (K1.o.below hb (by omega));replace K2:=H_ (K2.o.below hb (by omega));have hs2:=hb.size;have c0:=K1.o.cell 2;have c1:=K2.o.cell 2;clear hb;go_wp2_with fail
 clear c0 c1;refine(zwr _ _ _ _ _ _ D.made _ (HX.o.made.below HB2.o hh) (HY.o.made.below HB2.o hh') (by omega)).mono ?_;rintro e w3 ⟨rfl,hb⟩;have HB3:=HB2.tr hb (by omega);replace K1:=H_ (K1.o.below hb (by omega));replace K2:=H_ (K2.o.below hb (by omega));have c0:=K1.o.cell 3;have c1:=K2.o.cell 3;clear hb;go_wp2_with fail
 refine(zg8 _ _ _ _ _ _ D.now _ (HX.o.now.below HB3.o hh) (HY.o.now.below HB3.o hh') (by omega)).mono ?_;rintro e w4 ⟨rfl,hb⟩;have HB4:=HB3.ts hb;clear hb;go_wp2;go_ret;exact⟨rfl,HB4.o⟩
theorem zpt(w:World):Calls prog 25 #[] w λe w'=>e=.returned true/\w=w':=by
 have h0:bits .andNot .i64 15 0=15:=by decide
 have h1:bits .andNot .i64 15 15=0:=by decide
 go_enter func25,ntmps25
 go_wp2;go_ret;exact⟨rfl,rfl⟩
end Go.Proofs.YtfnnhimopokpnaaGreatDoor
