/- Lemmas for this seat; no condition. -/
import Derived.Test.YtfnnhimopokpnaaGreatDoorHDAB
import Derived.Deep.RegionHeld3
import Derived.Deep.RegionHeldLaw
namespace Go.Proofs.YtfnnhimopokpnaaGreatDoor
open Go.RowKit Proofs.Tryz
set_option maxRecDepth 100000
set_option maxHeartbeats 0
set_option linter.all false
variable {w w':World} {n g:Nat} {txt t:List UInt8}
theorem zh7.bytes {a:Option Addr} {len cap:Nat} {zs:List Int}(h:zh7 .u8 w a len cap zs):∃ xs,SlB 0 w w (.slice a len cap) xs:=by
 obtain⟨h1,h2⟩:=h.sl;refine⟨zs.take len,?_,?_⟩
 ·rw[h1];exact h2
 ·intro x hx
  have hx':=a7_ hx;rcases h with⟨_,_,_,rfl⟩|⟨_,_,_,_,_,_,hw⟩
  ·simp at hx'
  ·have:=hw x hx'
   simp[Lit.wf,IntKind.min,IntKind.max,IntKind.signed,IntKind.bits]at this;omega
theorem z2d(a b:Int)(ha:0<=a/\a<=15)(hb:0<=b/\b<=15)(z:Nat)(h:z<8):
  ∃ y:Int,(#[(10:Int),(12:Int),(5:Int),(3:Int),.int .i64 a,.int .i64 b,(15:Int),(0:Int)]:Array Value)[z]?=some (.int .i64 y)/\0<=y/\y<=15:=by
 match z,h with
 | 0,_=>exact⟨_,rfl,by omega,by omega⟩
 | 1,_=>exact⟨_,rfl,by omega,by omega⟩
 | 2,_=>exact⟨_,rfl,by omega,by omega⟩
 | 3,_=>exact⟨_,rfl,by omega,by omega⟩
 | 4,_=>exact⟨_,rfl,by omega,by omega⟩
 | 5,_=>exact⟨_,rfl,by omega,by omega⟩
 | 6,_=>exact⟨_,rfl,by omega,by omega⟩
 | 7,_=>exact⟨_,rfl,by omega,by omega⟩
theorem znm(a b:Int)(z:Nat)(h:z<2):∃ y:Int,(#[.int .i64 a,.int .i64 b]:Array Value)[z]?=some (.int .i64 y)/\(y=a\/y=b):=by
 match z,h with
 | 0,_=>exact⟨_,rfl,.inl rfl⟩
 | 1,_=>exact⟨_,rfl,.inr rfl⟩
theorem InR.lt {n x:Int}(h:InR n x)(hn:0<n):0<=x/\x<n:=by
 obtain⟨h1,h2⟩:=h;omega
theorem β.alloc {lo hi:Nat} {o:Obj}(h:β lo hi (w.alloc o) w'):β lo hi w w':=
 (β.of_below ((B_ w w).alloc (le_ _) o) (le_ _)).trans h
theorem Rd.alloc {c:Nat}(h:Rd g w c)(o:Obj):Rd g (w.alloc o) c:=h.below ((B_ _ _).alloc (le_ _) _) h.lt
theorem zla {o:Obj}(ho:β g (g+1) (w.alloc o) w')(hlt:g<w):Blk w o w':=
 zcc (ba_ w o) ho (Or.inr hlt)
abbrev zy5(g c:Nat)(w:World)(P:Int->Prop):Ending->World->Prop:=zc7 λx w'=>P x/\β g (g+1) w w'/\Rd g w' c
theorem zkp(g c:Nat)(n:Int)(w:World)(h:Rd g w c)(hc:c<=100000000000)(hn:n<=1000):
  Calls prog 168 #[.pointer (q_ g 0),.int .i64 n] w (zy5 g (c+4) w λx=>(n<=0->0<=x/\x<=15)/\-1<=x/\x<=16):=by
 have rest:∀ w1,Q_ (Rd g w1 (c+1))->True:=λ_ _=>trivial
 go_enter func168,ntmps168
 go_wp2_with fail
 refine(zt8 g c n w h (by omega) (by omega)).mono ?_;rintro e w1 ⟨b,rfl,hb0,ho1,hr1⟩;have HO:=H_ ho1;have HR:=H_ hr1;clear ho1 hr1 h;cases b
 ·go_wp2_with fail
  refine(Δ g _ _ _ HR.o (by omega)).mono ?_;rintro e w2 ⟨x1,rfl,i1,ho,hr⟩;obtain⟨i1,i1'⟩:=i1.lt (by omega);replace HO:=H_ (HO.o.trans ho);replace HR:=H_ hr;clear ho hr;go_wp2_with fail
  refine(Δ g _ _ _ HR.o (by omega)).mono ?_;rintro e w3 ⟨x2,rfl,i2,ho,hr⟩;obtain⟨i2,i2'⟩:=i2.lt (by omega);replace HO:=H_ (HO.o.trans ho);replace HR:=H_ hr;clear ho hr;have hlt:=HR.o.lt;go_wp2_with fail
  refine(Δ g _ _ _ (HR.o.alloc _) (by omega)).mono ?_;rintro e w4 ⟨x3,rfl,i3,ho,hr⟩;obtain⟨i3,i3'⟩:=i3.lt (by omega);have K:=zla ho hlt;replace HO:=H_ (HO.o.trans (β.alloc ho));replace HR:=H_ hr;clear ho hr;obtain⟨z,rfl⟩:∃ z:Nat,x3=z:=⟨x3.toNat,by omega⟩;obtain⟨y,hy,y1,y2⟩:=z2d x1 x2 ⟨i1,by omega⟩ ⟨i2,by omega⟩ z (by omega);have hcell:=(K.cell z).trans hy;clear K hy;go_wp2;go_ret;exact zc7.mk y rfl ⟨⟨λ_=>⟨y1,y2⟩,by omega,by omega⟩,HO.o,HR.o⟩
 ·have hlt:=HR.o.lt
  have hb1:0<n:=hb0 rfl;clear hb0;go_wp2_with fail
  refine(Δ g _ _ _ (HR.o.alloc _) (by omega)).mono ?_;rintro e w4 ⟨x3,rfl,i3,ho,hr⟩;obtain⟨i3,i3'⟩:=i3.lt (by omega);have K:=zla ho hlt;replace HO:=H_ (HO.o.trans (β.alloc ho));replace HR:=H_ (hr.mono (by omega:_<=c+4));clear ho hr;obtain⟨z,rfl⟩:∃ z:Nat,x3=z:=⟨x3.toNat,by omega⟩;obtain⟨y,hy,y1⟩:=znm (-1) 16 z (by omega);have hcell:=(K.cell z).trans hy;clear K hy;go_wp2;go_ret;exact zc7.mk y rfl ⟨⟨λhn0=>absurd hb1 (by omega),by omega,by omega⟩,HO.o,HR.o⟩
theorem zfy(g c:Nat)(w:World)(h:Rd g w c)(hc:c<=10000000000):
  Calls prog 125 #[.pointer (q_ g 0)] w (ι λv w'=>zgm g (c+5) w v w' 1):=by
 go_enter func125,ntmps125
 go_wp2_with fail
 refine(Δ g c _ _ h (by omega)).mono ?_;rintro e w1 ⟨x1,rfl,i1,ho,hr⟩;obtain⟨i1,i1'⟩:=i1.lt (by omega);have HO:=H_ ho;have HR:=H_ hr;clear ho hr h;cases hx:x1==0
 ·go_wp2_with fail
  refine(Δ g _ _ _ HR.o (by omega)).mono ?_;rintro e w2 ⟨x2,rfl,i2,ho,hr⟩;obtain⟨i2,i2'⟩:=i2.lt (by omega);replace HO:=H_ (HO.o.trans ho);replace HR:=H_ hr;clear ho hr;have hsz:=HO.o.size;go_wp2;go_ret;exact ι.mk _ rfl ⟨[16+x2],(zb0 (16+x2) w2).lower hsz (le_ _),by simp,HO.o.below ((B_ _ _).alloc (le_ _) _) hsz,(HR.o.alloc _).mono (by omega)⟩
 ·go_wp2_with fail
  refine(zkp g _ 0 _ HR.o (by omega) (by omega)).mono ?_;rintro e w2 ⟨x2,rfl,i2,ho,hr⟩;replace HO:=H_ (HO.o.trans ho);replace HR:=H_ hr;clear ho hr;have hsz:=HO.o.size;go_wp2;go_ret;exact ι.mk _ rfl ⟨[x2],(zb0 x2 w2).lower hsz (le_ _),by simp,HO.o.below ((B_ _ _).alloc (le_ _) _) hsz,(HR.o.alloc _).mono (by omega)⟩
theorem zm5(g c:Nat)(parts n:Int)(w:World)(h:Rd g w c)(hc:c<=1000000000)(hp0:0<=parts)(hp:parts<=20)(hn:n<=1000):
  Calls prog 80 #[.pointer (q_ g 0),.int .i64 parts,.int .i64 n] w (ι λv w'=>zgm g (c+400) w v w' 44):=by
 have hg:=h.lt
 go_enter func80,ntmps80
 go_wp2_with fail
 refine(zfy g c _ h (by omega)).mono ?_;rintro e w1 ⟨v1,rfl,xs1,hown,hl1,ho,hr⟩;have hs1:=ho.size;have HW:=H_ (a_ hown (a_ ho hr));clear hown ho hr h;go_wp2_with fail
 refine(Δ g _ _ _ HW.o.2.2 (by omega)).mono ?_;rintro e w2 ⟨x2,rfl,i2,ho,hr⟩;obtain⟨i2,i2'⟩:=i2.lt (by omega);replace HW:=H_ (a_ ((HW.o.1.outside ho (.inr (by omega))).lower (le_ _) ho.size) (a_ (HW.o.2.1.trans ho) hr));clear ho hr;obtain⟨y,rfl⟩:∃ y:Nat,x2=y:=⟨x2.toNat,by omega⟩;go_wp2;go_loopw [7,8] (λv i wr=>∃ (j:Nat) (a:Option Addr) (cap:Nat) (xs:List Int),v=.slice a xs cap/\j<=y/\i=.int .i64 j/\xs.length<=39/\Q_ (γ w wr 3 wr (.slice a xs cap) xs/\β g (g+1) w wr/\Rd g wr (c+10+10*(y-j)))) (λ_ i _=>(intOf i).toNat)
 case atStart=>
  obtain⟨h1,h2,h3⟩:=HW.o;obtain⟨a,cap,he,_⟩:=θ h1;exact⟨y,a,cap,xs1,he,le_ _,rfl,by omega,H_ ⟨by rw[<-he];exact h1,h2,h3.mono (by omega)⟩⟩
 case round=>
  obtain⟨j,a,cap,xs,rfl,hj,rfl,hlen,HR⟩:=hrel;by_cases hj0:0<j
  ·by_cases h38:xs.length<38
   ·go_wp2_with fail
    refine(Δ g _ _ _ HR.o.2.2 (by omega)).mono ?_;rintro e w3 ⟨x3,rfl,i3,ho,hr⟩;obtain⟨i3,i3'⟩:=i3.lt (by omega);replace HR:=H_ (a_ ((HR.o.1.outside ho (.inr (by omega))).lower (le_ _) ho.size) (a_ (HR.o.2.1.trans ho) hr));clear ho hr HW;have hx3:x3=0\/x3=1\/x3=2\/x3=3\/x3=4\/x3=5:=by omega
    clear i3 i3';rcases hx3 with rfl|rfl|rfl|rfl|rfl|rfl
    ·skip
     (have hown:=HR.o.1;have hsz:=HR.o.2.1.size;go_wp2_with (at_builtin;refine zap _ rfl _ _ 22 rfl 3 (0:Int) 1 8 underlying22 ω rfl (by decide) (by decide) rfl hown 1 (δ [21]) rfl rfl (Ι _) rfl ?c1 ?c2 ?_));case c1=>omega
     case c2=>omega
     intro v' w5 hown5 hout5 _;obtain⟨a',cap',rfl,_⟩:=θ hown5;have H3:=H_ (a_ hown5 hout5);clear hown hown5 hout5;go_wp2;go_roundw
     case rel=>
      exact⟨j-1,a',cap',xs++[21],by simp,by omega,by go_num,by simp;omega,H_ ⟨γ.app H3.o.1 rfl,HR.o.2.1.fresh H3.o.2 (le_ _),(HR.o.2.2.outside H3.o.2 hg).mono (by omega)⟩⟩
     case measure=>simp[intOf];omega
    ·go_wp2_with fail
     refine(zfy g _ _ HR.o.2.2 (by omega)).mono ?_;rintro e w4 ⟨v4,rfl,ls,hown,hl1,ho,hr⟩;replace HR:=H_ (a_ ((HR.o.1.outside ho (.inr (by omega))).lower (le_ _) ho.size) (a_ (HR.o.2.1.trans ho) hr));have HL:=H_ hown;clear hown ho hr;have hs4:=HR.o.2.1.size;go_wp2_with fail
     refine(zaj _ _ _ _ _ _ ls xs 19 _ HL.o.sl HR.o.1.sl (le_ _) (le_ _) (by omega)).mono ?_;rintro e w5 ⟨v5,rfl,hb,hown5⟩;obtain⟨a',cap',rfl,_⟩:=θ hown5;have H3:=H_ (a_ hown5 hb);clear hown5 hb;go_wp2;go_roundw
     case rel=>
      exact⟨j-1,a',cap',ls++xs++[19],by first | (simp;done) | (simp;omega),by omega,by go_num,by simp;omega,H_ ⟨H3.o.1.lower hs4 (le_ _),HR.o.2.1.below H3.o.2 hs4,(HR.o.2.2.below H3.o.2 HR.o.2.2.lt).mono (by omega)⟩⟩
     case measure=>simp[intOf];omega
    ·go_wp2_with fail
     refine(zfy g _ _ HR.o.2.2 (by omega)).mono ?_;rintro e w4 ⟨v4,rfl,ls,hown,hl1,ho,hr⟩;replace HR:=H_ (a_ ((HR.o.1.outside ho (.inr (by omega))).lower (le_ _) ho.size) (a_ (HR.o.2.1.trans ho) hr));have HL:=H_ hown;clear hown ho hr;have hs4:=HR.o.2.1.size;go_wp2_with fail
     refine(zaj _ _ _ _ _ _ ls xs 20 _ HL.o.sl HR.o.1.sl (le_ _) (le_ _) (by omega)).mono ?_;rintro e w5 ⟨v5,rfl,hb,hown5⟩;obtain⟨a',cap',rfl,_⟩:=θ hown5;have H3:=H_ (a_ hown5 hb);clear hown5 hb;go_wp2;go_roundw
     case rel=>
      exact⟨j-1,a',cap',ls++xs++[20],by first | (simp;done) | (simp;omega),by omega,by go_num,by simp;omega,H_ ⟨H3.o.1.lower hs4 (le_ _),HR.o.2.1.below H3.o.2 hs4,(HR.o.2.2.below H3.o.2 HR.o.2.2.lt).mono (by omega)⟩⟩
     case measure=>simp[intOf];omega
    ·go_wp2_with fail
     refine(zfy g _ _ HR.o.2.2 (by omega)).mono ?_;rintro e w4 ⟨v4,rfl,ls,hown,hl1,ho,hr⟩;replace HR:=H_ (a_ ((HR.o.1.outside ho (.inr (by omega))).lower (le_ _) ho.size) (a_ (HR.o.2.1.trans ho) hr));have HL:=H_ hown;clear hown ho hr;have hs4:=HR.o.2.1.size;go_wp2_with fail
     refine(zaj _ _ _ _ _ _ xs ls 20 _ HR.o.1.sl HL.o.sl (le_ _) (le_ _) (by omega)).mono ?_;rintro e w5 ⟨v5,rfl,hb,hown5⟩;obtain⟨a',cap',rfl,_⟩:=θ hown5;have H3:=H_ (a_ hown5 hb);clear hown5 hb;go_wp2;go_roundw
     case rel=>
      exact⟨j-1,a',cap',xs++ls++[20],by first | (simp;done) | (simp;omega),by omega,by go_num,by simp;omega,H_ ⟨H3.o.1.lower hs4 (le_ _),HR.o.2.1.below H3.o.2 hs4,(HR.o.2.2.below H3.o.2 HR.o.2.2.lt).mono (by omega)⟩⟩
     case measure=>simp[intOf];omega
    ·go_wp2_with fail
     refine(zfy g _ _ HR.o.2.2 (by omega)).mono ?_;rintro e w4 ⟨v4,rfl,ls,hown,hl1,ho,hr⟩;replace HR:=H_ (a_ ((HR.o.1.outside ho (.inr (by omega))).lower (le_ _) ho.size) (a_ (HR.o.2.1.trans ho) hr));have HL:=H_ hown;clear hown ho hr;have hs4:=HR.o.2.1.size;go_wp2_with fail
     refine(zaj _ _ _ _ _ _ xs ls 19 _ HR.o.1.sl HL.o.sl (le_ _) (le_ _) (by omega)).mono ?_;rintro e w5 ⟨v5,rfl,hb,hown5⟩;obtain⟨a',cap',rfl,_⟩:=θ hown5;have H3:=H_ (a_ hown5 hb);clear hown5 hb;go_wp2;go_roundw
     case rel=>
      exact⟨j-1,a',cap',xs++ls++[19],by first | (simp;done) | (simp;omega),by omega,by go_num,by simp;omega,H_ ⟨H3.o.1.lower hs4 (le_ _),HR.o.2.1.below H3.o.2 hs4,(HR.o.2.2.below H3.o.2 HR.o.2.2.lt).mono (by omega)⟩⟩
     case measure=>simp[intOf];omega
    ·go_wp2_with fail
     refine(zfy g _ _ HR.o.2.2 (by omega)).mono ?_;rintro e w4 ⟨v4,rfl,ls,hown,hl1,ho,hr⟩;replace HR:=H_ (a_ ((HR.o.1.outside ho (.inr (by omega))).lower (le_ _) ho.size) (a_ (HR.o.2.1.trans ho) hr));have HL:=H_ hown;clear hown ho hr;have hs4:=HR.o.2.1.size;go_wp2_with fail
     refine(zaj _ _ _ _ _ _ xs ls 19 _ HR.o.1.sl HL.o.sl (le_ _) (le_ _) (by omega)).mono ?_;rintro e w5 ⟨v5,rfl,hb,hown5⟩;obtain⟨a',cap',rfl,_⟩:=θ hown5;have H3:=H_ (a_ hown5 hb);clear hown5 hb;go_wp2;go_roundw
     case rel=>
      exact⟨j-1,a',cap',xs++ls++[19],by first | (simp;done) | (simp;omega),by omega,by go_num,by simp;omega,H_ ⟨H3.o.1.lower hs4 (le_ _),HR.o.2.1.below H3.o.2 hs4,(HR.o.2.2.below H3.o.2 HR.o.2.2.lt).mono (by omega)⟩⟩
     case measure=>simp[intOf];omega
   ·(have hl44:xs.length<=39:=hlen);clear HW;have hjy:10+10*(y-j)<=220:=by omega
    (replace HR:=H_ (a_ HR.o.1 (a_ HR.o.2.1 (HR.o.2.2.mono (show c+10+10*(y-j)<=c+220 by omega))));clear hjy;go_wp2_with fail);refine(zf7 g _ _ _ HR.o.2.2 (by omega) (by omega)).mono ?_;rintro e w3 ⟨b,rfl,ho,hr⟩;replace HR:=H_ (a_ ((HR.o.1.outside ho (.inr (by omega))).lower (le_ _) ho.size) (a_ (HR.o.2.1.trans ho) hr));clear ho hr;cases b
    ·go_wp2
     go_ret;exact ι.mk _ rfl ⟨xs,HR.o.1,by omega,HR.o.2.1,HR.o.2.2.mono (by omega)⟩
    ·go_wp2_with fail
     refine(Δ g _ _ _ HR.o.2.2 (by omega)).mono ?_;rintro e w4 ⟨x4,rfl,i4,ho,hr⟩;obtain⟨i4,i4'⟩:=i4.lt (by omega);replace HR:=H_ (a_ ((HR.o.1.outside ho (.inr (by omega))).lower (le_ _) ho.size) (a_ (HR.o.2.1.trans ho) hr));clear ho hr;have hx4:x4=0\/x4=1\/x4=2\/x4=3\/x4=4:=by omega
     clear i4 i4';have hsz:=HR.o.2.1.size;rcases hx4 with rfl|rfl|rfl|rfl|rfl
     ·go_wp2
      go_ret;exact ι.mk _ rfl ⟨[],γ.len (n:=0) (za3 (ς 1 3 w4 [] 0 (by omega) rfl) hsz (by simp)) rfl,by simp,HR.o.2.1.below ((B_ _ _).alloc (le_ _) _) hsz,(HR.o.2.2.alloc _).mono (by omega)⟩
     ·skip
      (have hown:=HR.o.1;have hsz:=HR.o.2.1.size;go_wp2_with (at_builtin;refine zap _ rfl _ _ 22 rfl 3 (0:Int) 1 8 underlying22 ω rfl (by decide) (by decide) rfl hown 1 (δ [16]) rfl rfl (Ι _) rfl ?c1 ?c2 ?_));case c1=>omega
      case c2=>omega
      intro v' w5 hown5 hout5 _;obtain⟨a',cap',rfl,_⟩:=θ hown5;have H3:=H_ (a_ hown5 hout5);clear hown hown5 hout5;go_wp2;go_ret;exact ι.mk _ rfl ⟨xs++[16],γ.len (n:=xs.length+1) (by rw[zaa];exact H3.o.1) (by simp),by simp;omega,HR.o.2.1.fresh H3.o.2 (le_ _),(HR.o.2.2.outside H3.o.2 hg).mono (by omega)⟩
     ·(have hl0:=ς 1 3 w4 (δ [20]) 1 (by omega) rfl);(have HL:=H_ ((HR.o.1.below ((B_ w4 w4).alloc (le_ _) (.cells (δ [20]).toArray 3)) (le_ _)).sl);go_wp2_with (at_builtin;go_loud (refine Μ rfl _ _ 22 rfl 3 (0:Int) 1 8 underlying22 ω rfl (by decide) (by decide) rfl hl0 rfl HL.o (Ι _) ?c1 ?c2 ?_)));case c1=>omega
      case c2=>simp
      intro v' w5 hown5 _ hout5 _;have H3:=H_ (a_ hown5 (β.alloc hout5));clear hown5 hout5 hl0;go_wp2;go_ret;exact ι.mk _ rfl ⟨20 :: xs,γ.len (n:=1+xs.length) (za3 H3.o.1 hsz (le_ _)) (by simp;omega),by simp;omega,HR.o.2.1.fresh H3.o.2 hsz,(HR.o.2.2.outside H3.o.2 HR.o.2.2.lt).mono (by omega)⟩
     ·(have hlt:=HR.o.2.2.lt);go_wp2_with fail
      refine(Δ g _ _ _ (HR.o.2.2.alloc _) (by omega)).mono ?_;rintro e w6 ⟨x6,rfl,i6,ho,hr⟩;obtain⟨i6,i6'⟩:=i6.lt (by omega);have K:=zla ho hlt;have hsz6:w4<=w6.heap.size:=(β.alloc ho).size;replace HR:=H_ (a_ ((HR.o.1.outside (β.alloc ho) (.inr (by omega))).lower (le_ _) hsz6) (a_ (HR.o.2.1.trans (β.alloc ho)) hr));clear ho hr;obtain⟨z,rfl⟩:∃ z:Nat,x6=z:=⟨x6.toNat,by omega⟩;obtain⟨q,hq,_⟩:=znm (-1) 22 z (by omega);have hcell:=(K.cell z).trans hq;clear K hq;have hown:=HR.o.1;have hsz:=HR.o.2.1.size;go_wp2_with (at_builtin;refine zap _ rfl _ _ 22 rfl 3 (0:Int) 1 8 underlying22 ω rfl (by decide) (by decide) rfl hown 1 (δ [q]) rfl rfl (Ι _) rfl ?c1 ?c2 ?_)
      case c1=>omega
      case c2=>omega
      intro v' w5 hown5 hout5 _;obtain⟨a',cap',rfl,_⟩:=θ hown5;have H3:=H_ (a_ hown5 hout5);clear hown hown5 hout5;go_wp2;go_ret;exact ι.mk _ rfl ⟨xs++[q],γ.len (n:=xs.length+1) (by rw[zaa];exact H3.o.1) (by simp),by simp;omega,HR.o.2.1.fresh H3.o.2 (le_ _),(HR.o.2.2.outside H3.o.2 hg).mono (by omega)⟩
     ·go_wp2
      (have HS:=HR;go_loopw [7] (λv wr=>∃ (a:Option Addr) (cap:Nat) (zs:List Int),v=.slice a zs cap/\zs.length<=41/\Q_ (γ w wr 3 wr (.slice a zs cap) zs/\β g (g+1) w wr/\Rd g wr (c+400))) (λv _=>42-zb7 v));case atStart=>exact⟨a,cap,xs,rfl,by omega,H_ ⟨HS.o.1,HS.o.2.1,HS.o.2.2.mono (by omega)⟩⟩
      case round=>
       obtain⟨a2,cap2,zs,rfl,hz,HR⟩:=hrel;by_cases hz2:zs.length<=40
       ·skip
        (have hown:=HR.o.1;have hsz:=HR.o.2.1.size;go_wp2_with (at_builtin;refine zap _ rfl _ _ 22 rfl 3 (0:Int) 1 8 underlying22 ω rfl (by decide) (by decide) rfl hown 1 (δ [21]) rfl rfl (Ι _) rfl ?c1 ?c2 ?_));case c1=>omega
        case c2=>omega
        intro v' w5 hown5 hout5 _;obtain⟨a',cap',rfl,_⟩:=θ hown5;have H3:=H_ (a_ hown5 hout5);clear hown hown5 hout5;go_wp2;go_roundw
        case rel=>
         exact⟨a',cap',zs++[21],by simp,by simp;omega,H_ ⟨γ.app H3.o.1 rfl,HR.o.2.1.fresh H3.o.2 (le_ _),HR.o.2.2.outside H3.o.2 hg⟩⟩
        case measure=>simp[zb7];omega
       ·go_wp2
        go_ret;exact ι.mk _ rfl ⟨zs,HR.o.1,by omega,HR.o.2.1,HR.o.2.2⟩
  ·have hl44:xs.length<=39:=hlen
   clear HW;have hjy:10+10*(y-j)<=220:=by omega
   replace HR:=H_ (a_ HR.o.1 (a_ HR.o.2.1 (HR.o.2.2.mono (show c+10+10*(y-j)<=c+220 by omega))));clear hjy;go_wp2_with fail
   refine(zf7 g _ _ _ HR.o.2.2 (by omega) (by omega)).mono ?_;rintro e w3 ⟨b,rfl,ho,hr⟩;replace HR:=H_ (a_ ((HR.o.1.outside ho (.inr (by omega))).lower (le_ _) ho.size) (a_ (HR.o.2.1.trans ho) hr));clear ho hr;cases b
   ·go_wp2
    go_ret;exact ι.mk _ rfl ⟨xs,HR.o.1,by omega,HR.o.2.1,HR.o.2.2.mono (by omega)⟩
   ·go_wp2_with fail
    refine(Δ g _ _ _ HR.o.2.2 (by omega)).mono ?_;rintro e w4 ⟨x4,rfl,i4,ho,hr⟩;obtain⟨i4,i4'⟩:=i4.lt (by omega);replace HR:=H_ (a_ ((HR.o.1.outside ho (.inr (by omega))).lower (le_ _) ho.size) (a_ (HR.o.2.1.trans ho) hr));clear ho hr;have hx4:x4=0\/x4=1\/x4=2\/x4=3\/x4=4:=by omega
    clear i4 i4';have hsz:=HR.o.2.1.size;rcases hx4 with rfl|rfl|rfl|rfl|rfl
    ·go_wp2
     go_ret;exact ι.mk _ rfl ⟨[],γ.len (n:=0) (za3 (ς 1 3 w4 [] 0 (by omega) rfl) hsz (by simp)) rfl,by simp,HR.o.2.1.below ((B_ _ _).alloc (le_ _) _) hsz,(HR.o.2.2.alloc _).mono (by omega)⟩
    ·skip
     (have hown:=HR.o.1;have hsz:=HR.o.2.1.size;go_wp2_with (at_builtin;refine zap _ rfl _ _ 22 rfl 3 (0:Int) 1 8 underlying22 ω rfl (by decide) (by decide) rfl hown 1 (δ [16]) rfl rfl (Ι _) rfl ?c1 ?c2 ?_));case c1=>omega
     case c2=>omega
     intro v' w5 hown5 hout5 _;obtain⟨a',cap',rfl,_⟩:=θ hown5;have H3:=H_ (a_ hown5 hout5);clear hown hown5 hout5;go_wp2;go_ret;exact ι.mk _ rfl ⟨xs++[16],γ.len (n:=xs.length+1) (by rw[zaa];exact H3.o.1) (by simp),by simp;omega,HR.o.2.1.fresh H3.o.2 (le_ _),(HR.o.2.2.outside H3.o.2 hg).mono (by omega)⟩
    ·(have hl0:=ς 1 3 w4 (δ [20]) 1 (by omega) rfl);(have HL:=H_ ((HR.o.1.below ((B_ w4 w4).alloc (le_ _) (.cells (δ [20]).toArray 3)) (le_ _)).sl);go_wp2_with (at_builtin;go_loud (refine Μ rfl _ _ 22 rfl 3 (0:Int) 1 8 underlying22 ω rfl (by decide) (by decide) rfl hl0 rfl HL.o (Ι _) ?c1 ?c2 ?_)));case c1=>omega
     case c2=>simp
     intro v' w5 hown5 _ hout5 _;have H3:=H_ (a_ hown5 (β.alloc hout5));clear hown5 hout5 hl0;go_wp2;go_ret;exact ι.mk _ rfl ⟨20 :: xs,γ.len (n:=1+xs.length) (za3 H3.o.1 hsz (le_ _)) (by simp;omega),by simp;omega,HR.o.2.1.fresh H3.o.2 hsz,(HR.o.2.2.outside H3.o.2 HR.o.2.2.lt).mono (by omega)⟩
    ·(have hlt:=HR.o.2.2.lt);go_wp2_with fail
     refine(Δ g _ _ _ (HR.o.2.2.alloc _) (by omega)).mono ?_;rintro e w6 ⟨x6,rfl,i6,ho,hr⟩;obtain⟨i6,i6'⟩:=i6.lt (by omega);have K:=zla ho hlt;have hsz6:w4<=w6.heap.size:=(β.alloc ho).size;replace HR:=H_ (a_ ((HR.o.1.outside (β.alloc ho) (.inr (by omega))).lower (le_ _) hsz6) (a_ (HR.o.2.1.trans (β.alloc ho)) hr));clear ho hr;obtain⟨z,rfl⟩:∃ z:Nat,x6=z:=⟨x6.toNat,by omega⟩;obtain⟨q,hq,_⟩:=znm (-1) 22 z (by omega);have hcell:=(K.cell z).trans hq;clear K hq;have hown:=HR.o.1;have hsz:=HR.o.2.1.size;go_wp2_with (at_builtin;refine zap _ rfl _ _ 22 rfl 3 (0:Int) 1 8 underlying22 ω rfl (by decide) (by decide) rfl hown 1 (δ [q]) rfl rfl (Ι _) rfl ?c1 ?c2 ?_)
     case c1=>omega
     case c2=>omega
     intro v' w5 hown5 hout5 _;obtain⟨a',cap',rfl,_⟩:=θ hown5;have H3:=H_ (a_ hown5 hout5);clear hown hown5 hout5;go_wp2;go_ret;exact ι.mk _ rfl ⟨xs++[q],γ.len (n:=xs.length+1) (by rw[zaa];exact H3.o.1) (by simp),by simp;omega,HR.o.2.1.fresh H3.o.2 (le_ _),(HR.o.2.2.outside H3.o.2 hg).mono (by omega)⟩
    ·go_wp2
     (have HS:=HR;go_loopw [7] (λv wr=>∃ (a:Option Addr) (cap:Nat) (zs:List Int),v=.slice a zs cap/\zs.length<=41/\Q_ (γ w wr 3 wr (.slice a zs cap) zs/\β g (g+1) w wr/\Rd g wr (c+400))) (λv _=>42-zb7 v));case atStart=>exact⟨a,cap,xs,rfl,by omega,H_ ⟨HS.o.1,HS.o.2.1,HS.o.2.2.mono (by omega)⟩⟩
     case round=>
      obtain⟨a2,cap2,zs,rfl,hz,HR⟩:=hrel;by_cases hz2:zs.length<=40
      ·skip
       (have hown:=HR.o.1;have hsz:=HR.o.2.1.size;go_wp2_with (at_builtin;refine zap _ rfl _ _ 22 rfl 3 (0:Int) 1 8 underlying22 ω rfl (by decide) (by decide) rfl hown 1 (δ [21]) rfl rfl (Ι _) rfl ?c1 ?c2 ?_));case c1=>omega
       case c2=>omega
       intro v' w5 hown5 hout5 _;obtain⟨a',cap',rfl,_⟩:=θ hown5;have H3:=H_ (a_ hown5 hout5);clear hown hown5 hout5;go_wp2;go_roundw
       case rel=>
        exact⟨a',cap',zs++[21],by simp,by simp;omega,H_ ⟨γ.app H3.o.1 rfl,HR.o.2.1.fresh H3.o.2 (le_ _),HR.o.2.2.outside H3.o.2 hg⟩⟩
       case measure=>simp[zb7];omega
      ·go_wp2
       go_ret;exact ι.mk _ rfl ⟨zs,HR.o.1,by omega,HR.o.2.1,HR.o.2.2⟩
theorem zgb(t:Int)(w:World):Calls prog 107 #[.int .i64 t] w λe w'=>e=.returned (.bool (inB t 0 15))/\w=w':=by
 go_enter func107,ntmps107
 go_wp2_with (go_at_call 101;refine(za0 _ _ _ _).mono ?_;rintro e w' ⟨rfl,rfl⟩)
 go_ret;exact⟨rfl,rfl⟩
theorem zp4(t:Nat)(ht:t<16)(w:World):Calls prog 108 #[.int .i64 t] w λe w'=>e=.returned (.string ⟨((zej t).getD []).toArray⟩)/\w=w':=by
 have h1:t=0\/t=1\/t=2\/t=3\/t=4\/t=5\/t=6\/t=7\/t=8\/t=9\/t=10\/t=11\/t=12\/t=13\/t=14\/t=15:=by omega
 clear ht;rcases h1 with rfl|rfl|rfl|rfl|rfl|rfl|rfl|rfl|rfl|rfl|rfl|rfl|rfl|rfl|rfl|rfl
 all_goals (go_enter func108,ntmps108;go_wp2;go_ret;exact⟨rfl,rfl⟩)
theorem conv1(w:World)(k:Nat):
  Sem.run prog (convert 40 9 (.slice (q_ w 0) 1 1)) (w.alloc (.cells #[.int .u8 (48+(k:Int))] 5))=.ok (.string ⟨#[UInt8.ofNat (48+k)]⟩) (w.alloc (.cells #[.int .u8 (48+(k:Int))] 5)):=by
 have h:=zjc (P:=prog) 40 9 5 underlying40 underlying5 underlying9 w [48+(k:Int)];simp only[I_,an_,df_,c3_,U_]at h;rw[show ((48:Int)+(k:Int)).toNat=48+k by omega]at h;exact h
theorem zzm:∀ t,t<16->∀ s,zej t=some s->(s.length=1\/s.length=2):=by decide +kernel
theorem zk2(t:Nat)(ht:t<16)(w:World):
  c_ 57 #[.int .i64 t] w (.string ⟨(Υ t).toArray⟩):=by
 have hv:inB (t:Int) 0 15=true:=by simp[inB];omega
 cases hn:zej t with
 | some s=>
  have hs:(s==[])=false:=by
   rcases zzm t ht s hn with h|h<;>cases s<;>simp at h ⊢
  have HT:=H_ (show Υ t=s by simp[Υ,hn]);have HN:=zp4 t ht;rw[hn]at HN;simp only[ac_]at HN;replace HN:=H_ HN;clear hn
  go_enter func57,ntmps57
  go_wp2_with (first | (go_at_call 107;refine(zgb _ _).mono ?_;rintro e w' ⟨rfl,rfl⟩) | (go_at_call 108;refine(HN.o _).mono ?_;rintro e w' ⟨rfl,rfl⟩))
  go_ret;exact⟨by rw[HT.o];rfl,B_ _ _⟩
 | none=>
  have HT:=H_ (show Υ t=91 :: zec t 4++[93] by simp[Υ,hn]);have HN:=zp4 t ht;rw[hn]at HN;simp only[Option.getD_none]at HN;replace HN:=H_ HN;clear hn
  go_enter func57,ntmps57
  go_wp2_with (first | (go_at_call 107;refine(zgb _ _).mono ?_;rintro e w' ⟨rfl,rfl⟩) | (go_at_call 108;refine(HN.o _).mono ?_;rintro e w' ⟨rfl,rfl⟩))
  go_loopw [3,4] (λs i wr=>∃ (k:Nat) (l:List UInt8),k<=4/\i=.int .i64 k/\s=.string ⟨l.toArray⟩/\l.length<=1+k/\Q_ (l=91 :: zec t k)/\Q_ (Below w w wr)) (λ_ i _=>4-(intOf i).toNat)
  case atStart=>exact⟨0,[91],by omega,rfl,rfl,by simp,H_ rfl,H_ (B_ _ _)⟩
  case round=>
   obtain⟨k,l,hk,rfl,rfl,hlen,HL,HB⟩:=hrel;by_cases hlt:k<4
   ·cases hq:hb t k
    ·(have HQ:=H_ (zqj t k ht hlt));rw[hq]at HQ;have HN:=H_ (zs5 hq);go_wp2_with (go_at_call 109;refine(HQ.o _).mono ?_;rintro e w' ⟨rfl,rfl⟩)
     go_roundw
     (case rel=>exact⟨k+1,l,by omega,by go_num,rfl,by omega,H_ (by rw[HL.o,HN.o]),HB⟩);case measure=>simp[intOf];omega
    ·(have HQ:=H_ (zqj t k ht hlt));rw[hq]at HQ;have HN:=H_ (zra hq);have hcv:=conv1 wr k;go_wp2_with (go_at_call 109;refine(HQ.o _).mono ?_;rintro e w' ⟨rfl,rfl⟩)
     go_roundw
     (case rel=>exact⟨k+1,l++[48+UInt8.ofNat k],by omega,by go_num,congrArg Value.string (zfp _ _ _ rfl),by simp;omega,H_ (by rw[HL.o,HN.o,UInt8.ofNat_add];rfl),H_ (HB.o.alloc HB.o.size _)⟩);case measure=>simp[intOf];omega
   ·(obtain rfl:k=4:=by omega);go_wp2;go_ret;exact⟨congrArg (λb=>Ending.returned (Value.string b)) (zfp _ _ _ (by rw[HT.o,HL.o])),HB.o⟩
theorem zyo(l:List UInt8)(s:ByteArray)(hs:s=⟨l.toArray⟩)(w:World):
  c_ 256 #[.string s] w (rdT (ze0 l)):=by
 subst hs
 go_enter func256,ntmps256
 go_wp2;go_loopw [4] (λi wr=>∃ k:Nat,k<=16/\i=.int .i64 k/\Q_ (NoT l k)/\Q_ (Below w w wr)) (λi _=>16-(intOf i).toNat)
 case atStart=>exact⟨0,by omega,rfl,H_ (by intro j hj;omega),H_ (B_ _ _)⟩
 case round=>
  obtain⟨k,hk,rfl,HN,HB⟩:=hrel;by_cases hlt:k<16
  ·cases hq:(Υ k==l)
   ·go_wp2_with (go_at_call 57;refine(zk2 k hlt _).mono ?_;rintro e w1 ⟨rfl,hb⟩)
    (have HB1:=HB.ts hb;clear hb;go_roundw)
    case rel=>
     refine⟨k+1,by omega,by go_num,H_ ?_,HB1⟩;intro j hj;rcases bi_ j k with h|h
     ·exact HN.o j h
     ·(obtain rfl:j=k:=by omega);simpa using hq
    case measure=>simp[intOf];omega
   ·(have HR:=H_ (zop hlt HN.o (by simpa using hq)));go_wp2_with (go_at_call 57;refine(zk2 k hlt _).mono ?_;rintro e w1 ⟨rfl,hb⟩)
    go_ret2
    exact⟨by rw[HR.o];rfl,HB.o.trans (hb.mono HB.o.size)⟩
  ·obtain rfl:k=16:=by omega
   have HR:=H_ (zsx HN.o);go_wp2
   go_ret2
   exact⟨by rw[HR.o];rfl,HB.o⟩
def zdv(txt s:List UInt8)(n:Nat):Prop:=s=txt.drop n/\n+s.length=txt.length
theorem zdv.get {d:UInt8}(h:zdv txt (d :: t) n):∃ h:n<txt.length,txt[n]=d:=by
 obtain⟨h1,h2⟩:=h;have hl:n<txt.length:=by simp at h2;omega
 refine⟨hl,?_⟩;rw[y_ hl]at h1;injection h1 with h1 _;exact h1.symm
theorem zdv.next {d:UInt8}(h:zdv txt (d :: t) n):zdv txt t (n+1):=by
 obtain⟨h1,h2⟩:=h;have hl:n<txt.length:=by simp at h2;omega
 rw[y_ hl]at h1;injection h1 with _ h1;exact⟨h1,by simp at h2;omega⟩
def zn3(txt:List UInt8)(w:World)(e:List Int)(r:List UInt8)(e':Ending)(w':World):Prop:=
 ∃ v n,e'=.returned (.tuple #[v,.int .i64 ((n:Nat):Int),.bool true])/\zdv txt r n/\Below w w w'/\γ w w' 3 w' v e
def zn5(p:PR)(m:Nat):Prop:=∀ (w:World) (txt s:List UInt8) (n deep:Nat) (e:List Int) (r:List UInt8),zdv txt s n->txt.length<=199->deep+m<=98->p s=some (e,r) ->
 Calls prog 249 #[.string ⟨txt.toArray⟩,.int .i64 n,.int .i64 deep] w (zn3 txt w e r)
def zgu(p:PR)(k:Int)(m:Nat):Prop:=∀ (w:World) (txt s:List UInt8) (n deep:Nat) (e:List Int) (r:List UInt8),zdv txt s n->txt.length<=199->deep+m<=98->p s=some (e,r) ->
 Calls prog 237 #[.string ⟨txt.toArray⟩,.int .i64 n,.int .i64 k,.int .i64 deep] w (zn3 txt w e r)
theorem zw8(txt:List UInt8)(n:Nat)(h:n<txt.length):(ByteArray.mk txt.toArray).extract n (n+1)=⟨[txt[n]].toArray⟩:=by
 apply cd_;simp[bo_];rw[y_ h];rfl
theorem zti(sum:PR)(m:Nat)(hsh:zdg sum)(hg:zgu sum 1 m):zn5 (zgg (ze1 sum)) (m+1):=by
 intro w txt s n deep e r hT hl hd hp;simp only[zgg,W_]at hp;obtain⟨⟨e1,r1⟩,hp1,hp2⟩:=hp;replace hp2:zbz e1 r1=(e,r):=hp2;have hlen:=zgw hsh _ _ _ hp1;have hTn:=hT.2;cases s with
 | nil=>simp[ze1] at hp1
 | cons c t=>
  obtain⟨hlt,hc0⟩:=hT.get;have HTN:=H_ hT.next;have hget:∀ hh:n<(ByteArray.mk txt.toArray).size,(ByteArray.mk txt.toArray)[n]'hh=c:=λ_=>hc0
  have hlt2:(n:Int)<txt.length:=by omega
  have HG:=H_ hg;have HP2:=H_ hp2;have hwrapn:(n:Int)+1<=txt.length:=by omega
  have⟨wa,hwa⟩:=xa_ w #[] 3;have HBA:Q_ (Below w w wa):=by rw[hwa];exact H_ ((B_ _ _).alloc (le_ _) _)
  have hsa:wa=w.heap.size+1:=by rw[hwa];simp
  have HWA:=H_ hwa;clear hT hg hp2 hwa;rcases zoh hp1 with⟨hc,d,hd41,hs⟩|⟨hc,h33,h91,rfl,hrest⟩
  ·have HP:=H_ hs
   have hcI:((c.toNat:Int)==40)=true:=by simp;omega
   have hcI2:¬(97:Int)<=c.toNat:=by omega
   have hdI:((d.toNat:Int) !=41)=false:=by simp;omega
   have hdd:(deep:Int)<99:=by omega
   clear hp1 hs hc hd41
   go_enter func249,ntmps249
   go_wp2_with fail
   simp only[<-HWA.o];refine(HG.o wa txt t (n+1) (deep+1) e1 (d :: r1) HTN.o hl (by omega) HP.o).mono ?_;rintro e' w2 ⟨v2,n2,rfl,hT2,hb,hown⟩;obtain⟨hlt3,hd0⟩:=hT2.get;have hget2:∀ hh:n2<(ByteArray.mk txt.toArray).size,(ByteArray.mk txt.toArray)[n2]'hh=d:=λ_=>hd0
   have hlt4:(n2:Int)<txt.length:=by omega
   obtain⟨a2,cap2,rfl,_⟩:=θ hown;have HI:=H_ (a_ (hown.lower (by omega:w<=wa.heap.size) (le_ _)) (a_ (HBA.o.trans (hb.mono (by omega))) (a_ hT2.next HP2.o)));have hlen1:e1.length+r1.length<=199:=by simp at hlen;have:=hTn;simp at this;omega
   clear hb hown hT2;go_wp2;go_loopw [9,10,11,15] (λo tt f en wr=>o=.slice a2 e1 cap2/\tt=.int .i64 ((n2:Int)+1)/\f=.bool true/\en=.int .i64 ((n:Int)+1)/\wr=w2) (λ_ _ _ _ _=>0)
   case atStart=>exact⟨rfl,rfl,rfl,rfl,rfl⟩
   case round=>
    (obtain⟨rfl,rfl,rfl,rfl,rfl⟩:=hrel;go_wp2)
    go_loopw [9,10] (λv i wr=>∃ (a:Option Addr) (cap q:Nat) (es:List Int) (s':List UInt8),v=.slice a es cap/\i=.int .i64 q/\es.length+s'.length<=199 /\
      Q_ (γ w wr 3 wr (.slice a es cap) es/\Below w w wr/\zdv txt s' q/\zbz es s'=(e,r))) (λv _ _=>400-zb7 v)
    case atStart=>exact⟨a2,cap2,n2+1,e1,r1,by first | rfl | simp,by go_num,hlen1,HI⟩
    case round=>
     obtain⟨a,cap,q,es,s',rfl,rfl,hl2,HR⟩:=hrel;have hqT:=HR.o.2.2.1.2;cases s' with
     | nil=>
      (have hst:=HR.o.2.2.2;simp only[zbz,bf_]at hst;have HST:=H_ hst;have hqe:q=txt.length:=by simpa using hqT);(have hqI:¬(q:Int)<txt.length:=by omega);clear hst hqT;go_wp2;refine d_ (v:=.tuple #[.slice a es cap,.int .i64 q,.bool true]) (by simp[results,results249,go_sem,hqe]) rfl ?_;rw[<-HST.o.1,<-HST.o.2];exact⟨_,q,rfl,HR.o.2.2.1,HR.o.2.1,HR.o.1⟩
     | cons b t'=>
      (obtain⟨hlq,hbq⟩:=HR.o.2.2.1.get;have hgq:∀ hh:q<(ByteArray.mk txt.toArray).size,(ByteArray.mk txt.toArray)[q]'hh=b:=λ_=>hbq);(have hqI:(q:Int)<txt.length:=by omega);have hst:=HR.o.2.2.2;simp only[zbz]at hst;by_cases hb42:b.toNat=42
      ·rw[x_ hb42]at hst
       (have HST:=H_ hst;have hbI:((b.toNat:Int)==42)=true:=by simp;omega);(have HX:=H_ (HR.o.1.sl);have hwsz:=HR.o.2.1.size;have H0:Q_ (Own 1 wr (wr+1) 3 (wr.alloc (.cells (δ []).toArray 3)) (.slice (q_ wr 0) 0 0) 0 (δ [])):=H_ (ς 1 3 wr (δ []) 0 (by omega) rfl);have⟨w0,hw0⟩:=xa_ wr (δ []).toArray 3;have hb0:Below wr wr w0:=by rw[hw0];exact(B_ _ _).alloc (le_ _) _);(have hs0:w0=wr.heap.size+1:=by rw[hw0];simp);rw[<-hw0]at H0;have HW0:=H_ hw0;have KX:=H_ (HX.o.below hb0 (le_ _));have HB0:=H_ (HR.o.2.1.trans (hb0.mono hwsz));have HT2:=H_ HR.o.2.2.1.next;have hl3:es.length<=199:=by omega
       (have hl4:es.length+1+t'.length<=199:=by simp at hl2;omega);clear hw0 hb0 hst hb42 hqT HX;go_wp2_with (at_builtin;rw[show wr.alloc (.cells #[] 3)=w0 from HW0.o.symm];refine Μ rfl _ _ 22 rfl 3 (0:Int) 1 8 underlying22 ω rfl (by decide) (by decide) rfl H0.o rfl KX.o (Ι _) ?c1 ?c2 ?_)
       case c1=>omega
       case c2=>omega
       intro v1 w1 ho1 _ hout1 _;have O1:=H_ ho1;have hs1:=hout1.size;have HB1:=H_ (ε HB0.o hout1 hwsz (by omega));clear ho1 hout1 KX H0 HB0;go_wp2_with (at_builtin;refine zap w1 rfl _ _ 22 rfl 3 (0:Int) 1 8 underlying22 ω rfl (by decide) (by decide) rfl O1.o 1 (δ [21]) rfl rfl (Ι _) rfl ?c1 ?c2 ?_)
       case c1=>omega
       case c2=>omega
       intro v2 w2 ho2 hout2 _;obtain⟨a',cap',rfl,_⟩:=θ ho2;have H3:=H_ (a_ ho2 (ε HB1.o hout2 hwsz (by omega)));have hs2:=hout2.size;clear ho2 hout2 O1 HB1;go_wp2;go_roundw
       case rel=>
        refine⟨a',cap',q+1,es++[21],t',by first | (simp;done) | (simp;omega),by go_num,by simp;omega,H_ ⟨?_,H3.o.2,HT2.o,HST.o⟩⟩;have h:=za3 H3.o.1 hwsz (le_ _);have e1:(es++[21]).length=es.length+1:=by simp
        (have e2:δ (es++[21])=δ []++(δ es++δ [21]):=by simp[δ]);unfold γ;rw[e1,e2];exact h
       case measure=>simp[zb7];omega
      ·rw[m_ hb42]at hst
       simp only[bf_]at hst;have HST:=H_ hst;have hbI:((b.toNat:Int)==42)=false:=by simp;omega
       clear hst;go_wp2;refine d_ (v:=.tuple #[.slice a es cap,.int .i64 q,.bool true]) (by simp[results,results249,go_sem]) rfl ?_;rw[<-HST.o.1,<-HST.o.2];exact⟨_,q,rfl,HR.o.2.2.1,HR.o.2.1,HR.o.1⟩
  ·have hcI:((c.toNat:Int)==40)=false:=by simp;omega
   have hlen1:e1.length+r.length<=e1.length+r.length:=le_ _;clear hlen1;rcases hrest with⟨h97,h99,rfl⟩|⟨hno,k,hk,rfl⟩
   ·(have⟨i97,i99⟩:(97:Int)<=c.toNat/\(c.toNat:Int)<=99:=by omega);(have hown:=zb0 (16+((c.toNat:Int)-97)) wa;have⟨wb,hwb⟩:=xa_ wa #[.int .i64 (16+((c.toNat:Int)-97))] 3;rw[<-hwb,hsa]at hown;have hbb:Below wa wa wb:=by rw[hwb];exact(B_ _ _).alloc (le_ _) _);(have HI:=H_ (a_ (hown.lower (by omega:w<=w.heap.size+1) (le_ _)) (a_ (HBA.o.trans (hbb.mono (by omega))) (a_ HTN.o HP2.o)));have hlen1:[16+((c.toNat:Int)-97)].length+r1.length<=199:=by simp at hlen ⊢;have:=hTn;simp at this;omega);(have HWB:=H_ hwb;clear hown hbb hwb hp1);go_enter func249,ntmps249
    go_wp2;simp only[<-HWA.o];simp only[<-HWB.o];go_loopw [9,10,11,15] (λo tt f en wr=>o=.slice (q_ (w+1) 0) 1 1/\tt=.int .i64 ((n:Int)+1)/\f=.bool true/\en=.int .i64 ((n:Int)+1)/\wr=wb) (λ_ _ _ _ _=>0)
    case atStart=>exact⟨rfl,rfl,rfl,rfl,rfl⟩
    case round=>
     (obtain⟨rfl,rfl,rfl,rfl,rfl⟩:=hrel;go_wp2)
     go_loopw [9,10] (λv i wr=>∃ (a:Option Addr) (cap q:Nat) (es:List Int) (s':List UInt8),v=.slice a es cap/\i=.int .i64 q/\es.length+s'.length<=199 /\
       Q_ (γ w wr 3 wr (.slice a es cap) es/\Below w w wr/\zdv txt s' q/\zbz es s'=(e,r))) (λv _ _=>400-zb7 v)
     case atStart=>exact⟨some ⟨w+1,0,none⟩,1,n+1,[16+((c.toNat:Int)-97)],r1,by first | rfl | simp,by go_num,hlen1,HI⟩
     case round=>
      obtain⟨a,cap,q,es,s',rfl,rfl,hl2,HR⟩:=hrel;have hqT:=HR.o.2.2.1.2;cases s' with
      | nil=>
       (have hst:=HR.o.2.2.2;simp only[zbz,bf_]at hst;have HST:=H_ hst;have hqe:q=txt.length:=by simpa using hqT);(have hqI:¬(q:Int)<txt.length:=by omega);clear hst hqT;go_wp2;refine d_ (v:=.tuple #[.slice a es cap,.int .i64 q,.bool true]) (by simp[results,results249,go_sem,hqe]) rfl ?_;rw[<-HST.o.1,<-HST.o.2];exact⟨_,q,rfl,HR.o.2.2.1,HR.o.2.1,HR.o.1⟩
      | cons b t'=>
       (obtain⟨hlq,hbq⟩:=HR.o.2.2.1.get;have hgq:∀ hh:q<(ByteArray.mk txt.toArray).size,(ByteArray.mk txt.toArray)[q]'hh=b:=λ_=>hbq);(have hqI:(q:Int)<txt.length:=by omega);have hst:=HR.o.2.2.2;simp only[zbz]at hst;by_cases hb42:b.toNat=42
       ·rw[x_ hb42]at hst
        (have HST:=H_ hst;have hbI:((b.toNat:Int)==42)=true:=by simp;omega);(have HX:=H_ (HR.o.1.sl);have hwsz:=HR.o.2.1.size;have H0:Q_ (Own 1 wr (wr+1) 3 (wr.alloc (.cells (δ []).toArray 3)) (.slice (q_ wr 0) 0 0) 0 (δ [])):=H_ (ς 1 3 wr (δ []) 0 (by omega) rfl);have⟨w0,hw0⟩:=xa_ wr (δ []).toArray 3;have hb0:Below wr wr w0:=by rw[hw0];exact(B_ _ _).alloc (le_ _) _);(have hs0:w0=wr.heap.size+1:=by rw[hw0];simp);rw[<-hw0]at H0;have HW0:=H_ hw0;have KX:=H_ (HX.o.below hb0 (le_ _));have HB0:=H_ (HR.o.2.1.trans (hb0.mono hwsz));have HT2:=H_ HR.o.2.2.1.next;have hl3:es.length<=199:=by omega
        (have hl4:es.length+1+t'.length<=199:=by simp at hl2;omega);clear hw0 hb0 hst hb42 hqT HX;go_wp2_with (at_builtin;rw[show wr.alloc (.cells #[] 3)=w0 from HW0.o.symm];refine Μ rfl _ _ 22 rfl 3 (0:Int) 1 8 underlying22 ω rfl (by decide) (by decide) rfl H0.o rfl KX.o (Ι _) ?c1 ?c2 ?_)
        case c1=>omega
        case c2=>omega
        intro v1 w1 ho1 _ hout1 _;have O1:=H_ ho1;have hs1:=hout1.size;have HB1:=H_ (ε HB0.o hout1 hwsz (by omega));clear ho1 hout1 KX H0 HB0;go_wp2_with (at_builtin;refine zap w1 rfl _ _ 22 rfl 3 (0:Int) 1 8 underlying22 ω rfl (by decide) (by decide) rfl O1.o 1 (δ [21]) rfl rfl (Ι _) rfl ?c1 ?c2 ?_)
        case c1=>omega
        case c2=>omega
        intro v2 w2 ho2 hout2 _;obtain⟨a',cap',rfl,_⟩:=θ ho2;have H3:=H_ (a_ ho2 (ε HB1.o hout2 hwsz (by omega)));have hs2:=hout2.size;clear ho2 hout2 O1 HB1;go_wp2;go_roundw
        case rel=>
         refine⟨a',cap',q+1,es++[21],t',by first | (simp;done) | (simp;omega),by go_num,by simp;omega,H_ ⟨?_,H3.o.2,HT2.o,HST.o⟩⟩;have h:=za3 H3.o.1 hwsz (le_ _);have e1:(es++[21]).length=es.length+1:=by simp
         (have e2:δ (es++[21])=δ []++(δ es++δ [21]):=by simp[δ]);unfold γ;rw[e1,e2];exact h
        case measure=>simp[zb7];omega
       ·rw[m_ hb42]at hst
        simp only[bf_]at hst;have HST:=H_ hst;have hbI:((b.toNat:Int)==42)=false:=by simp;omega
        clear hst;go_wp2;refine d_ (v:=.tuple #[.slice a es cap,.int .i64 q,.bool true]) (by simp[results,results249,go_sem]) rfl ?_;rw[<-HST.o.1,<-HST.o.2];exact⟨_,q,rfl,HR.o.2.2.1,HR.o.2.1,HR.o.1⟩
   ·(have HRT:=H_ hk);(have hex:=zw8 txt n hlt;rw[hc0]at hex;have hlen1:[(k:Int)].length+r1.length<=199:=by simp at hlen ⊢;have:=hTn;simp at this;omega);(have hcmp:((97:Int)<=c.toNat/\¬(c.toNat:Int)<=99)\/¬(97:Int)<=c.toNat:=by omega);clear hno hk hp1;rcases hcmp with⟨i97,i99⟩|i97
    all_goals (
     go_enter func249,ntmps249
     go_wp2;simp only[<-HWA.o];go_loopw [9,10,11,15] (λo tt f en wr=>(f=.bool false/\en=.int .i64 ((n:Int)+1)/\wr=wa)\/(∃ a cap,o=.slice a 1 cap/\tt=.int .i64 ((n:Int)+1)/\f=.bool true/\en=.int .i64 ((n:Int)+1+1)/\Q_ (γ w wr 3 wr (.slice a 1 cap) [(k:Int)]/\Below w w wr))) (λ_ _ _ en _=>n+5-(intOf en).toNat)
     case atStart=>exact .inl ⟨rfl,rfl,rfl⟩
     case round=>
      rcases hrel with⟨rfl,rfl,rfl⟩|⟨a2,cap2,rfl,rfl,rfl,rfl,HO2⟩
      ·(have⟨hle6,hto1⟩:(n:Int)+1<=n+6/\((n:Int)+1).toNat=n+1:=by omega);go_wp2_with fail
       refine(zyo [c] _ rfl _).mono ?_;rintro e' w2 ⟨rfl,hb⟩;rw[HRT.o,show rdT (some k)=.tuple #[.int .i64 k,.bool true] from rfl];have hown:=zb0 (k:Int) w2;have⟨wb,hwb⟩:=xa_ w2 #[.int .i64 (k:Int)] 3;rw[<-hwb]at hown;have hbb:Below w2 w2 wb:=by rw[hwb];exact(B_ _ _).alloc (le_ _) _
       (have hs2:=hb.size;have HI:=H_ (a_ (hown.lower (by omega:w<=w2.heap.size) (le_ _)) ((HBA.o.trans (hb.mono (by omega))).trans (hbb.mono (by omega))));have HWB:=H_ hwb;clear hown hbb hwb hb;go_wp2;simp only[<-HWB.o];go_roundw);(case rel=>refine .inr ⟨some ⟨w2,0,none⟩,1,?_,?_,?_,?_,HI⟩<;>first | rfl | trivial | go_num);case measure=>simp[intOf];omega
      ·(have HI:=H_ (a_ HO2.o.1 (a_ HO2.o.2 (a_ HTN.o HP2.o))));(have hle7:(n:Int)+1+1<=n+6:=by omega);by_cases hq2:(n:Int)+1+1<=txt.length
       all_goals (
        go_wp2
        go_loopw [9,10] (λv i wr=>∃ (a:Option Addr) (cap q:Nat) (es:List Int) (s':List UInt8),v=.slice a es cap/\i=.int .i64 q/\es.length+s'.length<=199 /\
          Q_ (γ w wr 3 wr (.slice a es cap) es/\Below w w wr/\zdv txt s' q/\zbz es s'=(e,r))) (λv _ _=>400-zb7 v)
        case atStart=>exact⟨a2,cap2,n+1,[(k:Int)],r1,by first | rfl | simp,by go_num,hlen1,HI⟩
        case round=>
         obtain⟨a,cap,q,es,s',rfl,rfl,hl2,HR⟩:=hrel;have hqT:=HR.o.2.2.1.2;cases s' with
         | nil=>
          (have hst:=HR.o.2.2.2;simp only[zbz,bf_]at hst;have HST:=H_ hst;have hqe:q=txt.length:=by simpa using hqT);(have hqI:¬(q:Int)<txt.length:=by omega);clear hst hqT;go_wp2;refine d_ (v:=.tuple #[.slice a es cap,.int .i64 q,.bool true]) (by simp[results,results249,go_sem,hqe]) rfl ?_;rw[<-HST.o.1,<-HST.o.2];exact⟨_,q,rfl,HR.o.2.2.1,HR.o.2.1,HR.o.1⟩
         | cons b t'=>
          (obtain⟨hlq,hbq⟩:=HR.o.2.2.1.get;have hgq:∀ hh:q<(ByteArray.mk txt.toArray).size,(ByteArray.mk txt.toArray)[q]'hh=b:=λ_=>hbq);(have hqI:(q:Int)<txt.length:=by omega);have hst:=HR.o.2.2.2;simp only[zbz]at hst;by_cases hb42:b.toNat=42
          ·rw[x_ hb42]at hst
           (have HST:=H_ hst;have hbI:((b.toNat:Int)==42)=true:=by simp;omega);(have HX:=H_ (HR.o.1.sl);have hwsz:=HR.o.2.1.size;have H0:Q_ (Own 1 wr (wr+1) 3 (wr.alloc (.cells (δ []).toArray 3)) (.slice (q_ wr 0) 0 0) 0 (δ [])):=H_ (ς 1 3 wr (δ []) 0 (by omega) rfl);have⟨w0,hw0⟩:=xa_ wr (δ []).toArray 3;have hb0:Below wr wr w0:=by rw[hw0];exact(B_ _ _).alloc (le_ _) _);(have hs0:w0=wr.heap.size+1:=by rw[hw0];simp);rw[<-hw0]at H0;have HW0:=H_ hw0;have KX:=H_ (HX.o.below hb0 (le_ _));have HB0:=H_ (HR.o.2.1.trans (hb0.mono hwsz));have HT2:=H_ HR.o.2.2.1.next;have hl3:es.length<=199:=by omega
           (have hl4:es.length+1+t'.length<=199:=by simp at hl2;omega);clear hw0 hb0 hst hb42 hqT HX;go_wp2_with (at_builtin;rw[show wr.alloc (.cells #[] 3)=w0 from HW0.o.symm];refine Μ rfl _ _ 22 rfl 3 (0:Int) 1 8 underlying22 ω rfl (by decide) (by decide) rfl H0.o rfl KX.o (Ι _) ?c1 ?c2 ?_)
           case c1=>omega
           case c2=>omega
           intro v1 w1 ho1 _ hout1 _;have O1:=H_ ho1;have hs1:=hout1.size;have HB1:=H_ (ε HB0.o hout1 hwsz (by omega));clear ho1 hout1 KX H0 HB0;go_wp2_with (at_builtin;refine zap w1 rfl _ _ 22 rfl 3 (0:Int) 1 8 underlying22 ω rfl (by decide) (by decide) rfl O1.o 1 (δ [21]) rfl rfl (Ι _) rfl ?c1 ?c2 ?_)
           case c1=>omega
           case c2=>omega
           intro v2 w2 ho2 hout2 _;obtain⟨a',cap',rfl,_⟩:=θ ho2;have H3:=H_ (a_ ho2 (ε HB1.o hout2 hwsz (by omega)));have hs2:=hout2.size;clear ho2 hout2 O1 HB1;go_wp2;go_roundw
           case rel=>
            refine⟨a',cap',q+1,es++[21],t',by first | (simp;done) | (simp;omega),by go_num,by simp;omega,H_ ⟨?_,H3.o.2,HT2.o,HST.o⟩⟩;have h:=za3 H3.o.1 hwsz (le_ _);have e1:(es++[21]).length=es.length+1:=by simp
            (have e2:δ (es++[21])=δ []++(δ es++δ [21]):=by simp[δ]);unfold γ;rw[e1,e2];exact h
           case measure=>simp[zb7];omega
          ·rw[m_ hb42]at hst
           simp only[bf_]at hst;have HST:=H_ hst;have hbI:((b.toNat:Int)==42)=false:=by simp;omega
           clear hst;go_wp2;refine d_ (v:=.tuple #[.slice a es cap,.int .i64 q,.bool true]) (by simp[results,results249,go_sem]) rfl ?_;rw[<-HST.o.1,<-HST.o.2];exact⟨_,q,rfl,HR.o.2.2.1,HR.o.2.1,HR.o.1⟩))
theorem zx5(p:PR)(m:Nat)(h:zn5 p m):zgu p 3 m:=by
 intro w txt s n deep e r hT hl hd hp;have HC:=H_ (h w txt s n deep e r hT hl hd hp);clear h hT hp
 go_enter func237,ntmps237
 go_wp2_with fail
 refine HC.o.mono ?_;rintro e' w1 ⟨v,q,rfl,h1,h2,h3⟩;have H:=H_ (a_ h1 (a_ h2 h3));clear h1 h2 h3;go_wp2;refine d_ (v:=.tuple #[v,.int .i64 q,.bool true]) (by simp[results,results237,go_sem]) rfl ⟨v,q,rfl,H.o.1,H.o.2.1,H.o.2.2⟩
theorem z0y(part:PR)(m:Nat)(hsh:zdg part)(hpart:zgu part 3 m):zgu (zd4 59 19 part) 2 m:=by
 intro w txt s n deep e r hT hl hd hp;simp only[zd4,M_]at hp;obtain⟨⟨e1,r1⟩,hp1,hp2⟩:=hp;have hlen:=hsh _ _ _ hp1;have hTn:=hT.2;have HP:=H_ hpart;have HS:=H_ hsh;have HC:=H_ (hpart w txt s n deep e1 r1 hT hl hd hp1);have HL:=H_ (Exists.intro (p:=λq=>zbk 59 19 part q e1 r1=some (e,r)) r1.length hp2);clear hpart hsh hp1 hp2 hT
 go_enter func237,ntmps237
 go_wp2_with fail
 refine HC.o.mono ?_;rintro e' w1 ⟨v1,n1,rfl,hT1,hb,hown⟩;obtain⟨a1,cap1,rfl,_⟩:=θ hown;have HI:=H_ (a_ hown (a_ hb (a_ hT1 HL.o)));have hl1:e1.length+r1.length<=199:=by omega
 clear hb hown hT1 HC HL;go_wp2
 go_loopw [11,12,13] (λv i f wr=>∃ (a:Option Addr) (cap q:Nat) (es:List Int) (s':List UInt8),v=.slice a es cap/\i=.int .i64 q/\f=.bool true/\es.length+s'.length<=199 /\
   Q_ (γ w wr 3 wr (.slice a es cap) es/\Below w w wr/\zdv txt s' q/\∃ x,zbk 59 19 part x es s'=some (e,r))) (λv _ _ _=>400-zb7 v)
 case atStart=>exact⟨a1,cap1,n1,e1,r1,rfl,rfl,rfl,hl1,HI⟩
 case round=>
  obtain⟨a,cap,q,es,s',rfl,rfl,rfl,hl2,HR⟩:=hrel;clear HI;obtain⟨x,hx⟩:=HR.o.2.2.2;have hqT:=HR.o.2.2.1.2;cases s' with
  | nil=>
   have hst:es=e/\[]=r:=by cases x<;>simpa [zbk] using hx
   have HST:=H_ hst;have hqe:q=txt.length:=by simpa using hqT
   have hqI:¬(q:Int)<txt.length:=by omega
   clear hst hqT hx;go_wp2
   go_region
   all_goals (
    go_wp2;refine d_ (v:=.tuple #[.slice a es cap,.int .i64 q,.bool true]) (by simp[results,results237,go_sem,hqe]) rfl ?_;rw[<-HST.o.1,<-HST.o.2];exact⟨_,q,rfl,HR.o.2.2.1,HR.o.2.1.drew,HR.o.1⟩)
  | cons b t'=>
   obtain⟨hlq,hbq⟩:=HR.o.2.2.1.get;have hgq:∀ hh:q<(ByteArray.mk txt.toArray).size,(ByteArray.mk txt.toArray)[q]'hh=b:=λ_=>hbq
   have hqI:(q:Int)<txt.length:=by omega
   rcases zk5 hx with⟨hq,he,hr⟩|⟨hq,e2,r2,x',hq1,hq2⟩
   ·(have HE:=H_ (a_ he hr));(have hbI:((b.toNat:Int)==59)=false:=hq;clear hq he hr hx;go_wp2);go_region
    have hbn:Below wr wr (wr.alloc (.cells #[.int .u8 43,.int .u8 59] 5)).drew:=((B_ _ _).alloc (le_ _) _).drew;have hsn:wr.heap.size<=(wr.alloc (.cells #[.int .u8 43,.int .u8 59] 5)).drew.heap.size:=hbn.size;have HF:=H_ (a_ (HR.o.2.1.trans (hbn.mono HR.o.2.1.size)) ((HR.o.1.below hbn (le_ _)).lower (le_ _) hsn));clear hbn hsn;go_wp2;refine d_ (v:=.tuple #[.slice a es cap,.int .i64 q,.bool true]) (by simp[results,results237,go_sem]) rfl ?_;rw[HE.o.1,HE.o.2];exact⟨_,q,rfl,HR.o.2.2.1,HF.o.1,HF.o.2⟩
   ·(have HQ1:=H_ hq1);(have HQ2:=H_ hq2;have hbI:((b.toNat:Int)==59)=true:=hq;clear hq hq1 hq2 hx;go_wp2);go_region
    (have⟨w2,hw2⟩:=ex_ ((wr.alloc (.cells #[.int .u8 43,.int .u8 59] 5)).drew);have hbn:Below wr wr w2:=by rw[hw2];exact((B_ _ _).alloc (le_ _) _).drew);(have hsn:=hbn.size;have HF:=H_ (a_ (HR.o.2.1.trans (hbn.mono HR.o.2.1.size)) ((HR.o.1.below hbn (le_ _)).lower (le_ _) hsn));have HTN:=H_ HR.o.2.2.1.next;have HW2:=H_ hw2;have hsh2:=HS.o _ _ _ HQ1.o;simp only[List.tail_cons]at hsh2;have hl4:es.length+1+t'.length<=199:=by simp at hl2;omega);clear hbn hw2 hqT;go_wp2_with fail
    simp only[<-HW2.o];refine(HP.o w2 txt t' (q+1) deep e2 r2 HTN.o hl hd HQ1.o).mono ?_;rintro e' w3 ⟨v3,n3,rfl,hT3,hb3,hown3⟩;obtain⟨a3,cap3,rfl,_⟩:=θ hown3;have hs3:=hb3.size;have HF3:=H_ (a_ (HF.o.1.trans (hb3.mono HF.o.1.size)) (HF.o.2.below hb3 (le_ _)));have HO3:=H_ hown3;have HT3:=H_ hT3;clear hb3 hown3 hT3;have⟨w4,hw4⟩:=xa_ w3 #[(20:Int),(19:Int)] 3;have hb4:Below w3 w3 w4:=by rw[hw4];exact(B_ _ _).alloc (le_ _) _
    (have hs4:=hb4.size;have HW4:=H_ hw4;have HA:=H_ (HF3.o.2.sl.below hb4 hs3);have HB:=H_ (HO3.o.sl.below hb4 (le_ _));have HF4:=H_ (HF3.o.1.trans (hb4.mono HF3.o.1.size));clear hw4 hb4;go_wp2_with fail);simp only[<-HW4.o];refine(zaj _ _ _ _ _ _ es e2 19 w4 HA.o HB.o (by omega) (by omega) (by omega)).mono ?_;rintro e' w5 ⟨v5,rfl,hb5,hown5⟩;obtain⟨a5,cap5,rfl,_⟩:=θ hown5;have hs1':=HF4.o.size;have HI5:=H_ (a_ (hown5.lower hs1' (le_ _)) (a_ (HF4.o.trans (hb5.mono hs1')) (a_ HT3.o (Exists.intro (p:=λz=>zbk 59 19 part z (es++e2++[19]) r2=some (e,r)) x' HQ2.o))));clear hb5 hown5;go_wp2;go_roundw
    (case rel=>exact⟨a5,cap5,n3,es++e2++[19],r2,by first | rfl | (simp;done) | (simp;omega),rfl,rfl,by simp;omega,HI5⟩);case measure=>simp[zb7];omega
theorem z15(part:PR)(m:Nat)(hsh:zdg part)(hpart:zgu part 2 m):zgu (zd4 43 20 part) 1 m:=by
 intro w txt s n deep e r hT hl hd hp;simp only[zd4,M_]at hp;obtain⟨⟨e1,r1⟩,hp1,hp2⟩:=hp;have hlen:=hsh _ _ _ hp1;have hTn:=hT.2;have HP:=H_ hpart;have HS:=H_ hsh;have HC:=H_ (hpart w txt s n deep e1 r1 hT hl hd hp1);have HL:=H_ (Exists.intro (p:=λq=>zbk 43 20 part q e1 r1=some (e,r)) r1.length hp2);clear hpart hsh hp1 hp2 hT
 go_enter func237,ntmps237
 go_wp2_with fail
 refine HC.o.mono ?_;rintro e' w1 ⟨v1,n1,rfl,hT1,hb,hown⟩;obtain⟨a1,cap1,rfl,_⟩:=θ hown;have HI:=H_ (a_ hown (a_ hb (a_ hT1 HL.o)));have hl1:e1.length+r1.length<=199:=by omega
 clear hb hown hT1 HC HL;go_wp2
 go_loopw [11,12,13] (λv i f wr=>∃ (a:Option Addr) (cap q:Nat) (es:List Int) (s':List UInt8),v=.slice a es cap/\i=.int .i64 q/\f=.bool true/\es.length+s'.length<=199 /\
   Q_ (γ w wr 3 wr (.slice a es cap) es/\Below w w wr/\zdv txt s' q/\∃ x,zbk 43 20 part x es s'=some (e,r))) (λv _ _ _=>400-zb7 v)
 case atStart=>exact⟨a1,cap1,n1,e1,r1,rfl,rfl,rfl,hl1,HI⟩
 case round=>
  obtain⟨a,cap,q,es,s',rfl,rfl,rfl,hl2,HR⟩:=hrel;clear HI;obtain⟨x,hx⟩:=HR.o.2.2.2;have hqT:=HR.o.2.2.1.2;cases s' with
  | nil=>
   have hst:es=e/\[]=r:=by cases x<;>simpa [zbk] using hx
   have HST:=H_ hst;have hqe:q=txt.length:=by simpa using hqT
   have hqI:¬(q:Int)<txt.length:=by omega
   clear hst hqT hx;go_wp2
   go_region
   all_goals (
    go_wp2;refine d_ (v:=.tuple #[.slice a es cap,.int .i64 q,.bool true]) (by simp[results,results237,go_sem,hqe]) rfl ?_;rw[<-HST.o.1,<-HST.o.2];exact⟨_,q,rfl,HR.o.2.2.1,HR.o.2.1.drew,HR.o.1⟩)
  | cons b t'=>
   obtain⟨hlq,hbq⟩:=HR.o.2.2.1.get;have hgq:∀ hh:q<(ByteArray.mk txt.toArray).size,(ByteArray.mk txt.toArray)[q]'hh=b:=λ_=>hbq
   have hqI:(q:Int)<txt.length:=by omega
   rcases zk5 hx with⟨hq,he,hr⟩|⟨hq,e2,r2,x',hq1,hq2⟩
   ·(have HE:=H_ (a_ he hr));(have hbI:((b.toNat:Int)==43)=false:=hq;clear hq he hr hx;go_wp2);go_region
    have hbn:Below wr wr (wr.alloc (.cells #[.int .u8 43,.int .u8 59] 5)).drew:=((B_ _ _).alloc (le_ _) _).drew;have hsn:wr.heap.size<=(wr.alloc (.cells #[.int .u8 43,.int .u8 59] 5)).drew.heap.size:=hbn.size;have HF:=H_ (a_ (HR.o.2.1.trans (hbn.mono HR.o.2.1.size)) ((HR.o.1.below hbn (le_ _)).lower (le_ _) hsn));clear hbn hsn;go_wp2;refine d_ (v:=.tuple #[.slice a es cap,.int .i64 q,.bool true]) (by simp[results,results237,go_sem]) rfl ?_;rw[HE.o.1,HE.o.2];exact⟨_,q,rfl,HR.o.2.2.1,HF.o.1,HF.o.2⟩
   ·(have HQ1:=H_ hq1);(have HQ2:=H_ hq2;have hbI:((b.toNat:Int)==43)=true:=hq;clear hq hq1 hq2 hx;go_wp2);go_region
    (have⟨w2,hw2⟩:=ex_ ((wr.alloc (.cells #[.int .u8 43,.int .u8 59] 5)).drew);have hbn:Below wr wr w2:=by rw[hw2];exact((B_ _ _).alloc (le_ _) _).drew);(have hsn:=hbn.size;have HF:=H_ (a_ (HR.o.2.1.trans (hbn.mono HR.o.2.1.size)) ((HR.o.1.below hbn (le_ _)).lower (le_ _) hsn));have HTN:=H_ HR.o.2.2.1.next;have HW2:=H_ hw2;have hsh2:=HS.o _ _ _ HQ1.o;simp only[List.tail_cons]at hsh2;have hl4:es.length+1+t'.length<=199:=by simp at hl2;omega);clear hbn hw2 hqT;go_wp2_with fail
    simp only[<-HW2.o];refine(HP.o w2 txt t' (q+1) deep e2 r2 HTN.o hl hd HQ1.o).mono ?_;rintro e' w3 ⟨v3,n3,rfl,hT3,hb3,hown3⟩;obtain⟨a3,cap3,rfl,_⟩:=θ hown3;have hs3:=hb3.size;have HF3:=H_ (a_ (HF.o.1.trans (hb3.mono HF.o.1.size)) (HF.o.2.below hb3 (le_ _)));have HO3:=H_ hown3;have HT3:=H_ hT3;clear hb3 hown3 hT3;have⟨w4,hw4⟩:=xa_ w3 #[(20:Int),(19:Int)] 3;have hb4:Below w3 w3 w4:=by rw[hw4];exact(B_ _ _).alloc (le_ _) _
    (have hs4:=hb4.size;have HW4:=H_ hw4;have HA:=H_ (HF3.o.2.sl.below hb4 hs3);have HB:=H_ (HO3.o.sl.below hb4 (le_ _));have HF4:=H_ (HF3.o.1.trans (hb4.mono HF3.o.1.size));clear hw4 hb4;go_wp2_with fail);simp only[<-HW4.o];refine(zaj _ _ _ _ _ _ es e2 20 w4 HA.o HB.o (by omega) (by omega) (by omega)).mono ?_;rintro e' w5 ⟨v5,rfl,hb5,hown5⟩;obtain⟨a5,cap5,rfl,_⟩:=θ hown5;have hs1':=HF4.o.size;have HI5:=H_ (a_ (hown5.lower hs1' (le_ _)) (a_ (HF4.o.trans (hb5.mono hs1')) (a_ HT3.o (Exists.intro (p:=λz=>zbk 43 20 part z (es++e2++[20]) r2=some (e,r)) x' HQ2.o))));clear hb5 hown5;go_wp2;go_roundw
    (case rel=>exact⟨a5,cap5,n3,es++e2++[20],r2,by first | rfl | (simp;done) | (simp;omega),rfl,rfl,by simp;omega,HI5⟩);case measure=>simp[zb7];omega
theorem zn9:∀ n,zgu (ze7 n) 1 n
 | 0=>by intro w txt s n deep e r hT hl hd hp;cases hp
 | n+1=>z15 _ _ (zjs (zim (zgw (zes n)))) (z0y _ _ (zim (zgw (zes n))) (zx5 _ _ (zti _ _ (zes n) (zn9 n))))
theorem zvy(txt:List UInt8)(e:List Int)(s:ByteArray)(hs:s=⟨txt.toArray⟩)(w:World)(hl:txt.length<=98)(hp:ze7 txt.length txt=some (e,[]))(hv:ν e=true):
  Calls prog 214 #[.string s] w (ι λx w'=>∃ v,x=.tuple #[v,.bool true]/\Below w w w'/\γ w w' 3 w' v e):=by
 subst hs;have HC:=H_ (zn9 txt.length w txt txt 0 0 e [] ⟨by simp,by simp⟩ (by omega) (by omega) hp);have helen:e.length<=1048576:=by have:=zes txt.length _ _ _ hp;simp at this;omega
 clear hp
 go_enter func214,ntmps214
 go_wp2_with fail
 refine HC.o.mono ?_;rintro e' w1 ⟨v,n,rfl,hT,hb,hown⟩;have hn:n=txt.length:=by have:=hT.2;simpa using this
 subst hn;obtain⟨a,cap,rfl,_⟩:=θ hown;have HI:=H_ (a_ hb hown);clear hb hown hT HC;go_wp2_with fail
 refine(zag _ _ _ e _ HI.o.2.sl helen).mono ?_;rintro e' w2 ⟨rfl,rfl⟩;rw[hv];go_wp2;refine d_ (v:=.tuple #[.slice a e cap,.bool true]) (by simp[results,results214,go_sem]) rfl ⟨_,rfl,_,rfl,HI.o.1,HI.o.2⟩
theorem convC(w:World)(x:Nat):
  Sem.run prog (convert 40 9 (.slice (q_ w 0) 1 1)) (w.alloc (.cells #[.int .u8 (x:Int)] 5))=.ok (.string ⟨#[UInt8.ofNat x]⟩) (w.alloc (.cells #[.int .u8 (x:Int)] 5)):=by
 have h:=zjc (P:=prog) 40 9 5 underlying40 underlying5 underlying9 w [(x:Int)];simp only[I_,an_,df_,c3_,U_,b0_]at h;exact h
theorem zv9 {k:Nat}(h:k<txt.length):(txt.take (k+1)).map zao=(txt.take k).map zao++[zao txt[k]]:=by
 rw[ei_,ei_,bz_,l_ (by simpa using h)];simp
theorem zqt(txt:List UInt8)(e:List Int)(w:World)(hl:txt.length<=98)(hp:ze7 txt.length (txt.map zao)=some (e,[]))(hv:ν e=true):
  Calls prog 189 #[.string ⟨txt.toArray⟩] w (ι λv w'=>Below w w w'/\γ w w' 3 w' v (e.map zav)):=by
 have HP:=H_ hp;have helen:e.length<=98:=by have:=zes txt.length _ _ _ hp;simp at this;omega
 clear hp
 go_enter func189,ntmps189
 go_wp2;go_loopw [3,4] (λs i wr=>∃ (k:Nat) (l:List UInt8),k<=txt.length/\i=.int .i64 k/\s=.string ⟨l.toArray⟩/\l.length<=98/\Q_ (l=(txt.take k).map zao/\Below w w wr)) (λ_ i _=>txt.length-(intOf i).toNat)
 case atStart=>exact⟨0,[],by omega,rfl,rfl,by simp,H_ ⟨rfl,B_ _ _⟩⟩
 case round=>
  obtain⟨k,l,hk,rfl,rfl,hll,HR⟩:=hrel;by_cases hlt:k<txt.length
  ·have⟨c,hc⟩:=ex_ (txt[k])
   have hget:∀ hh:k<(ByteArray.mk txt.toArray).size,(ByteArray.mk txt.toArray)[k]'hh=c:=λ_=>hc.symm
   have hll2:l.length=k:=by rw[HR.o.1];simp;omega
   have hlt2:(k:Int)<txt.length:=by omega
   have hcl:c.toNat<256:=c.toNat_lt;have HN:=H_ (zv9 hlt);rw[<-hc]at HN;have hl2:(l++[zao c]).length<=98:=by simp;omega
   have HNX:Q_ (l++[zao c]=(txt.take (k+1)).map zao/\Below w w (wr.alloc (.cells #[.int .u8 (zbs c.toNat:Nat)] 5))):=H_ ⟨by rw[HN.o,HR.o.1],HR.o.2.alloc HR.o.2.size _⟩;have hcv:=convC wr (zbs c.toNat);have hcat:=zfp l (UInt8.ofNat (zbs c.toNat)) (l++[zao c]) rfl;clear hc HN;by_cases h1:120<=c.toNat/\c.toNat<=122
   ·have hrc:((zbs c.toNat:Nat):Int)=97+c.toNat-120:=by
     unfold zbs
     split
     ·omega
     ·split
      ·omega
      ·split<;>omega
    (have⟨i1,i2⟩:(120:Int)<=c.toNat/\(c.toNat:Int)<=122:=by omega);rw[hrc]at hcv HNX;go_wp2;go_roundw
    (case rel=>exact⟨k+1,l++[zao c],by omega,by go_num,rfl,hl2,HNX⟩);case measure=>simp[intOf];omega
   ·have hrc:((zbs c.toNat:Nat):Int)=c.toNat:=by
     unfold zbs
     split
     ·omega
     ·split
      ·omega
      ·split<;>omega
    rw[hrc]at hcv HNX;have hcmp:((120:Int)<=c.toNat/\¬(c.toNat:Int)<=122)\/¬(120:Int)<=c.toNat:=by omega
    clear h1;rcases hcmp with⟨i1,i2⟩|i1
    all_goals (
     go_wp2;go_roundw
     (case rel=>exact⟨k+1,l++[zao c],by omega,by go_num,rfl,hl2,HNX⟩);case measure=>simp[intOf];omega)
  ·obtain rfl:k=txt.length:=by omega
   have hlm:l=txt.map zao:=by rw[HR.o.1,Y_]
   subst hlm;have HB:=H_ HR.o.2;clear HR;go_wp2_with fail
   refine(zvy (txt.map zao) e _ rfl wr (by simpa using hl) (by rw[X_];exact HP.o) hv).mono ?_;rintro e' w1 ⟨_,rfl,v,rfl,hb,hown⟩;have hs1:=hb.size;have hsw:=HB.o.size;obtain⟨a,cap,rfl,hcap,hcm,hc⟩:=hown.sl.open;have HX:=H_ hown.sl;have⟨w2,hw2⟩:=xa_ w1 #[] 3;have hb2:Below w1 w1 w2:=by rw[hw2];exact(B_ _ _).alloc (le_ _) _
   have hlit:γ w1 (w1+1) 3 w2 (.slice (q_ w1 0) 0 0) []:=by rw[hw2];exact ς 1 3 w1 [] 0 (by omega) rfl
   have hs2:w2=w1.heap.size+1:=by rw[hw2];simp
   have HI:=H_ (a_ (hlit.lower (le_ _) (by omega:w1+1<=w2.heap.size)) (a_ (HB.o.trans ((hb.trans (hb2.mono hs1)).mono hsw)) (β.of_below (lo:=w1.heap.size) (hi:=w2.heap.size) hb2 (le_ _))));have HW2:=H_ hw2;clear hb hown hb2 hlit hw2 HB;go_wp2;simp only[<-HW2.o];go_loopw [8,9] (λo i wx=>∃ (j:Nat) (a':Option Addr) (cap':Nat),j<=e.length/\i=.int .i64 j/\o=.slice a' j cap'/\Q_ (Own 1 w1 wx 3 wx (.slice a' j cap') j (δ ((e.map zav).take j))/\Below w w wx/\β w1 wx w1 wx)) (λ_ i _=>e.length-(intOf i).toNat)
   case atStart=>exact⟨0,some ⟨w1,0,none⟩,0,by omega,rfl,rfl,H_ ⟨HI.o.1,HI.o.2.1,HI.o.2.2⟩⟩
   case round=>
    obtain⟨j,a',cap',hj,rfl,rfl,HR⟩:=hrel;by_cases hje:j<e.length
    ·(have hXR:=HX.o.outside HR.o.2.2 (.inl (le_ _)));(obtain⟨b,off,rfl,_,_,_,hcell⟩:=hXR.get j hje;have hje2:(j:Int)<e.length:=by omega);(have hjm:j<(e.map zav).length:=by simpa using hje)
     have hnx:δ ((e.map zav).take (j+1))=δ ((e.map zav).take j)++δ [zav e[j]]:=by
      rw[<-zaa]
      congr 1
      rw[bz_,l_ hjm];simp
     have HN:=H_ hnx;have hown:=HR.o.1;have hsx:=HR.o.2.2.size;clear hXR hnx hc;cases hq:inB e[j] 16 18
     ·(have hty:zav e[j]=e[j]:=by unfold zav;rw[show zal e[j]=false from hq];rfl);(have HTY:=H_ hty;clear hty;go_wp2_with (first | (go_at_call 101;refine(za0 _ _ _ _).mono ?_;rintro e w' ⟨rfl,rfl⟩) | (at_builtin;refine zap _ rfl _ _ 22 rfl 3 (0:Int) 1 8 underlying22 ω rfl (by decide) (by decide) rfl hown 1 (δ [e[j]]) rfl rfl (Ι _) rfl ?c1 ?c2 ?_)));case c1=>omega
      case c2=>omega
      intro v' w5 hown5 hout5 _;obtain⟨a5,cap5,rfl,_⟩:=θ hown5;have hs5:=hout5.size;have H5:=H_ (a_ hown5 (a_ (ε HR.o.2.1 hout5 (by omega) HR.o.2.1.size) (HR.o.2.2.trans (hout5.wide (le_ _) (le_ _)))));clear hown hown5 hout5;go_wp2;go_roundw
      (case rel=>exact⟨j+1,a5,cap5,by omega,by go_num,rfl,H_ ⟨by rw[HN.o,HTY.o];exact H5.o.1,H5.o.2.1,H5.o.2.2.wide (le_ _) hs5⟩⟩);case measure=>simp[intOf];omega
     ·(have hty:zav e[j]=-1-(e[j]-16):=by unfold zav;rw[show zal e[j]=true from hq];rfl);(have hbd:16<=e[j]/\e[j]<=18:=by simpa [inB] using hq);(obtain⟨b16,b18⟩:=hbd;have HTY:=H_ hty;clear hty;go_wp2_with (first | (go_at_call 101;refine(za0 _ _ _ _).mono ?_;rintro e w' ⟨rfl,rfl⟩) | (at_builtin;refine zap _ rfl _ _ 22 rfl 3 (0:Int) 1 8 underlying22 ω rfl (by decide) (by decide) rfl hown 1 (δ [-1-(e[j]-16)]) rfl rfl (Ι _) rfl ?c1 ?c2 ?_)));case c1=>omega
      case c2=>omega
      intro v' w5 hown5 hout5 _;obtain⟨a5,cap5,rfl,_⟩:=θ hown5;have hs5:=hout5.size;have H5:=H_ (a_ hown5 (a_ (ε HR.o.2.1 hout5 (by omega) HR.o.2.1.size) (HR.o.2.2.trans (hout5.wide (le_ _) (le_ _)))));clear hown hown5 hout5;go_wp2;go_roundw
      (case rel=>exact⟨j+1,a5,cap5,by omega,by go_num,rfl,H_ ⟨by rw[HN.o,HTY.o];exact H5.o.1,H5.o.2.1,H5.o.2.2.wide (le_ _) hs5⟩⟩);case measure=>simp[intOf];omega
    ·(obtain rfl:j=e.length:=by omega);have h:=HR.o.1;rw[ay_ (by simp)]at h;go_wp2;go_ret;exact ι.mk _ rfl ⟨HR.o.2.1,γ.len (n:=e.length) (za3 h (by omega) (le_ _)) (by simp)⟩
theorem z0l:∀ n,n<21->zcp.getD n []=zc5 n true++61 :: zc5 n false/\((zc5 n true).all λc=>c.toNat !=61)=true:=by decide +kernel
def zic:List Value:=zcp.map λl=>.string ⟨l.toArray⟩
theorem zy2(h:n<21):zic[n]?=some (.string ⟨(zcp.getD n []).toArray⟩):=by
 have hl:n<zcp.length:=h;simp[zic,List.getD,hl]
theorem zpd(w:World):Calls prog 188 #[] w λe w'=>e=.returned (.slice (q_ w 0) 21 21)/\w'=w.alloc (.cells zic.toArray 9):=by
 go_enter func188,ntmps188
 go_wp2;go_ret;exact⟨rfl,rfl⟩
theorem zzu(a b:List UInt8)(c:UInt8):(ByteArray.mk (a++c :: b).toArray).extract 0 a.length=⟨a.toArray⟩:=by
 apply cd_;simp[bo_]
theorem z18(a b:List UInt8)(c:UInt8):(ByteArray.mk (a++c :: b).toArray).extract (a.length+1) (a++c :: b).length=⟨b.toArray⟩:=by
 rw[extN]
 congr 2
 rw[show a.length+1=(a++[c]).length by simp,show a++c :: b=(a++[c])++b by simp,ch_]
theorem zov(n:Int)(w:World):
  Calls prog 151 #[.int .i64 n] w (RetRB λa b c w'=>c=isR n/\Below w w w'/\zcs w w' w' a b (zdr n true) (zdr n false)):=by
 have⟨w0,hw0⟩:=xa_ w #[(),()] 161;have⟨w1,hw1⟩:=xa_ w0 zic.toArray 9;have hb0:Below w w w0:=by rw[hw0];exact(B_ _ _).alloc (le_ _) _
 have hsz:w0=w.heap.size+1:=by rw[hw0];simp
 have hb1:Below w0 w0 w1:=by rw[hw1];exact(B_ _ _).alloc (le_ _) _
 have hsz1:w1=w.heap.size+2:=by rw[hw1];simp;omega
 have HB:=H_ (hb0.trans (hb1.mono (by omega)));have K:Q_ (Blk w (.cells #[(),()] 161) w1):=H_ (Blk.below (by rw[hw0];exact κ w _) hb1 (by omega));have KR:=H_ (show Blk w0 (.cells zic.toArray 9) w1 by rw[hw1];exact κ w0 _);have HW0:=H_ hw0;have HW1:=H_ hw1;have HQ:=H_ (show isR n=inB n 0 20 from rfl);clear hb0 hb1 hw0 hw1;cases hq:inB n 0 20
 ·have⟨c0,c1⟩:=K.o.c2
  have⟨f0,f1⟩:=K.o.f2;have⟨wz,hwz⟩:=x2_ w1 w () ();have KZ:=K.o.set2 () ();have HO:=H_ (β.set2 w w1 () ());rw[<-hwz]at KZ HO;have HZ:=H_ (ε HB.o HO.o (le_ _) HB.o.size);obtain⟨q0,q1⟩:=KZ.c2;have hzs:=HZ.o.size;have HWZ:=H_ hwz;clear KZ hwz
  go_enter func151,ntmps151
  go_wp2_with fail
  simp only[<-HW0.o];refine(zpd _).mono ?_;rintro e wx ⟨rfl,rfl⟩;rw[<-HW1.o];go_wp2_with fail
  refine(za0 _ _ _ _).mono ?_;rintro e wx ⟨rfl,rfl⟩;rw[hq];go_wp2;simp only[<-HWZ.o];refine d_ (v:=.tuple #[.agg #[(),()],.bool false]) (by simp[results,results151,go_sem,q0,q1]) rfl ⟨_,_,_,rfl,by rw[HQ.o];exact hq.symm,HZ.o,?_⟩;have h1:zdr n true=[]:=by simp[zdr,HQ.o,hq]
  have h2:zdr n false=[]:=by simp[zdr,HQ.o,hq]
  rw[h1,h2];exact zcs.nil _ _ hzs _
 ·obtain⟨m,rfl,hm⟩:∃ m:Nat,n=m/\m<21:=⟨n.toNat,by simp[inB] at hq;omega,by simp[inB] at hq;omega⟩
  obtain⟨eL,pL,vL,sL,lL⟩:=zkn hm true;obtain⟨eR,pR,vR,sR,lR⟩:=zkn hm false;obtain⟨hcut,hno⟩:=z0l m hm;have PL:=H_ (a_ pL (a_ vL sL));have PR:=H_ (a_ pR (a_ vR sR));have ct:w1.cell? (p_ w0 m)=some (.string ⟨(zcp.getD m []).toArray⟩):=(KR.o.cell m).trans (by rw[List.getElem?_toArray];exact zy2 hm);have⟨A,hA⟩:=ex_ (zc5 m true);have⟨B,hB⟩:=ex_ (zc5 m false);rw[<-hA,<-hB]at hcut;rw[<-hA]at hno lL PL;rw[<-hB]at lR PR;rw[hcut,hsz]at ct;have hmI:(m:Int)<21:=by omega
  have hx1:=zzu A B 61;have hx2:=z18 A B 61;have hlen:(A++61 :: B).length<=41:=by simp;omega
  have hlenA:A.length<(A++61 :: B).length:=by simp
  have h61:∀ hh:A.length<(ByteArray.mk (A++61 :: B).toArray).size,(ByteArray.mk (A++61 :: B).toArray)[A.length]'hh=61:=λ_=>by
   show (A++61 :: B)[A.length]'(by simp)=61
   simp
  have hpre:∀ k (h:k<A.length) (h2:k<(A++61 :: B).length),(A++61 :: B)[k]=A[k]:=λk h h2=>aq_ h
  clear pL vL sL pR vR sR hcut hA hB;have⟨T,hT⟩:=ex_ (A++61 :: B);rw[<-hT]at ct hx1 hx2 hlen hlenA h61 hpre;clear hT;have HX:=H_ (a_ hx1 hx2);have HPRE:=H_ hpre;have H61:=H_ h61;clear hx1 hx2 hpre h61
  go_enter func151,ntmps151
  go_wp2_with fail
  simp only[<-HW0.o];refine(zpd _).mono ?_;rintro e wx ⟨rfl,rfl⟩;rw[<-HW1.o];go_wp2_with fail
  refine(za0 _ _ _ _).mono ?_;rintro e wx ⟨rfl,rfl⟩;rw[hq];go_wp2
  go_loop [5] (λi=>∃ k:Nat,k<=A.length/\i=.int .i64 k) (λi=>A.length-(intOf i).toNat)
  case atStart=>exact⟨0,by omega,rfl⟩
  case round=>
   obtain⟨k,hk,rfl⟩:=hrel;by_cases hlt:k<A.length
   ·(have⟨hkl,hkI⟩:k<T.length/\(k:Int)<T.length:=by omega);(have⟨c,hc⟩:=ex_ (A[k]))
    have hgc:∀ hh:k<(ByteArray.mk T.toArray).size,(ByteArray.mk T.toArray)[k]'hh=c:=λ_=>by
     show T[k]'hkl=c
     rw[HPRE.o k hlt hkl,hc]
    have hcn:((c.toNat:Int) !=61)=true:=by
     have h:=b5_.1 hno c (by rw[hc];exact u_ _);simp at h ⊢;omega
    clear hc;go_wp2;go_round
    (case rel=>exact⟨k+1,by omega,by go_num⟩);case measure=>simp[intOf];omega
   ·(obtain rfl:k=A.length:=by omega);(have hAI:(A.length:Int)<T.length:=by omega);(have h61:=H61.o;have h61':((61:UInt8).toNat:Int)=61:=rfl;have hx1:=HX.o.1;have hx2:=HX.o.2;have hwr:IntKind.i64.wrap ((A.length:Int)+1)=(A.length:Int)+1:=by simp[IntKind.wrap,IntKind.bits,IntKind.signed];omega);(have⟨hb1,hb2,hb3,hb4,hb5,hb6⟩:(0:Int)<=(A.length:Int)+1/\(A.length:Int)+1<=T.length/\((A.length:Int)+1).toNat=A.length+1/\(A.length:Int)<=T.length/\A.length<=T.length/\A.length+1<=T.length:=by omega);(have ctd:w1.drew.cell? (p_ (w+1) m)=some (.string ⟨T.toArray⟩):=ct;have KD:=H_ (show Blk w (.cells #[(),()] 161) w1.drew from K.o);have hdsz:w1.drew.heap.size=w.heap.size+2:=hsz1;have HBD:=H_ HB.o.drew;go_wp2_with fail)
    go_region_held3 (λw'=>w'.cell? (p_ (w+1) m)=some (.string ⟨T.toArray⟩)) (first | assumption | go_keep) (first
     | (go_at_call_of 189 A;refine(zqt A eL _ (by omega) PL.o.1 PL.o.2.1).mono ?_;rintro e w2 ⟨v2,rfl,hbx,hown2⟩;obtain⟨a2,cap2,rfl,_⟩:=θ hown2;(have hz2:=hbx.size);(have ct2:w2.cell? (p_ (w+1) m)=some (.string ⟨T.toArray⟩):=(hbx.cell (p:=p_ (w+1) m) (by show w.heap.size+1<w1.drew.heap.size;omega)).trans ctd);(have K2:=KD.kb hbx);(have HB2:=HBD.ts hbx);(have HL:=H_ hown2);clear hbx hown2)
     | (go_at_call_of 189 B;refine(zqt B eR _ (by omega) PR.o.1 PR.o.2.1).mono ?_;rintro e w3 ⟨v3,rfl,hbx,hown3⟩;obtain⟨a3,cap3,rfl,_⟩:=θ hown3;(have hz3:=hbx.size);(have ct3:=(hbx.cell (p:=p_ (w+1) m) (by show w+1<w2.heap.size;omega)).trans ct2);(have K3:=K2.kb hbx);(have HB3:=HB2.ts hbx);(have HL3:=H_ (HL.o.below hbx (le_ _)));(have HR3:=H_ hown3);(have⟨c0,c1⟩:=K3.o.c2);(have⟨f0,f1⟩:=K3.o.f2);clear hbx hown3))
    all_goals (
     (have⟨wz,hwz⟩:=x2_ w3 w (.slice a2 eL cap2) (.slice a3 eR cap3);have KZ:=K3.o.set2 (.slice a2 eL cap2) (.slice a3 eR cap3);have HO:=H_ (β.set2 w w3 (.slice a2 eL cap2) (.slice a3 eR cap3));rw[<-hwz]at KZ HO;have HZ:=H_ (ε HB3.o HO.o (le_ _) HB3.o.size);obtain⟨q0,q1⟩:=KZ.c2;have hzs:=HO.o.size;have g1:zdr m true=eL.map zav:=by simp[zdr,HQ.o,hq,PL.o.2.2]);(have g2:zdr m false=eR.map zav:=by simp[zdr,HQ.o,hq,PR.o.2.2]);have HG:=H_ (a_ g1 g2);clear KZ g1 g2;go_wp2;simp only[<-hwz];clear hwz;refine d_ (v:=.tuple #[.agg #[.slice a2 eL cap2,.slice a3 eR cap3],.bool true]) (by simp[results,results151,go_sem,q0,q1]) rfl ⟨_,_,_,rfl,by rw[HQ.o];exact hq.symm,HZ.o,?_⟩;rw[HG.o.1,HG.o.2];have h1:=HL3.o;have h2:=HR3.o;simp only[X_]at h1 h2;exact⟨w2,by omega,by omega,(h1.outside HO.o (.inr (by omega))).lower (by omega) (le_ _),(h2.outside HO.o (.inr (by omega))).lower (le_ _) hzs⟩)
section
variable {P:Program} {w:World}
theorem zhv {ops:Array Oper} {o:Oper} {a:Act} {K:Act->World->Prop} {Q:Exit->Act->World->Prop} {E:Prop}(hgd:o.guard=none)(s x:Operand)(t:TypeId)
  (ho:o.op=.call { callee:=.builtin .append,args:=#[s,x],argTypes:=#[t,t] })
  (e:TypeId) (z:Value) (sz bytes:Nat) (ht:P.underlying t=some (.slice e)) (hinfo:(P.info? e).map (λi=>(i.zero,i.size,i.bytes))=some (some z,sz,bytes))
  (hzs:z.cells.size=sz) (hsz:0<sz) (hby:bytes<=64)
  {lo hi lo' hi' n:Nat} {v:Value} {xs:List Value} (hs:a.eval s=v) (hown:Own sz lo hi e w v n xs)
  {ad:Addr} {m c:Nat} {ys:List Value} (hx:a.eval x=.slice (some ad) m c) (hsl:Sl sz lo' hi' w (.slice (some ad) m c) m ys) (h1:∀ u∈ys,u.oneCell'=true)
  (hn:n+m<=1073741824) (hlo:lo<=w)
  (h:∀ v' w',Own sz lo w'.heap.size e w' v' (n+m) (xs++ys)->β lo hi w w'->K (a.put o.dst v') w') :
  if Region.wanted o (yielded ops a.tmps)=true then Oper.wp P o a w K Q else E:=by
 have hw:Region.wanted o (yielded ops a.tmps)=true:=by simp[Region.wanted,hgd]
 rw[x_ hw];obtain⟨i,hi0,hz,hsize,hb⟩:=b8_ hinfo;obtain⟨ao,c',e',hmc,hcm,hlen,hnone,hc⟩:=hsl;injection e' with e1 e2 e3;subst e1 e3;have hmx:(n+m)*bytes<=140737488355328:=J_ (bk_ hn hby) (by decide);refine wp_append_own w s x t ho lo e i z sz bytes ht hi0 hz hsize hb hzs hsz v n xs hs hown.1 ad m c ys hx hlen ?_ h1 (by unfold maxLen;omega) hmx hlo ?_
 ·intro j u hu
  have hj:=(a3_.1 hu).1;obtain⟨b,off,e1,_,_,_,e2⟩:=hc j hj;injection e1 with e1;subst e1;rw[a5_,e2,hu]
 ·intro v' w' h2 h3 _
  exact h v' w' (zfs h2) (zb1 h3 hown.lt)
end
section
variable {P:Program} {w:World}
theorem zbp {ops:Array Oper} {o:Oper} {a:Act} {K:Act->World->Prop} {Q:Exit->Act->World->Prop} {E:Prop}(hgd:o.guard=none)(s x:Operand)(t:TypeId)
  (ho:o.op=.call { callee:=.builtin .append,args:=#[s,x],argTypes:=#[t,t] })
  (e:TypeId) (z:Value) (sz bytes:Nat) (ht:P.underlying t=some (.slice e)) (hinfo:(P.info? e).map (λi=>(i.zero,i.size,i.bytes))=some (some z,sz,bytes))
  (hzs:z.cells.size=sz) (hsz:0<sz) (hby:bytes<=64)
  {lo hi lo' hi' n:Nat} {v:Value} {xs:List Value} (hs:a.eval s=v) (hown:Own sz lo hi e w v n xs)
  {ad:Addr} {m c:Nat} {ys:List Value} (hx:a.eval x=.slice (some ad) m c) (hsl:Sl sz lo' hi' w (.slice (some ad) m c) m ys) (h1:∀ u∈ys,u.oneCell'=true)
  (hn:n+m<=1073741824) (hlo:lo<=w)
  (h:∀ v' w',Own sz lo w'.heap.size e w' v' (n+m) (xs++ys)->β lo hi w w'->w.grownBy w' v.ownBlock->K (a.put o.dst v') w') :
  if Region.wanted o (yielded ops a.tmps)=true then Oper.wp P o a w K Q else E:=by
 have hw:Region.wanted o (yielded ops a.tmps)=true:=by simp[Region.wanted,hgd]
 rw[x_ hw];obtain⟨i,hi0,hz,hsize,hb⟩:=b8_ hinfo;obtain⟨ao,c',e',hmc,hcm,hlen,hnone,hc⟩:=hsl;injection e' with e1 e2 e3;subst e1 e3;have hmx:(n+m)*bytes<=140737488355328:=J_ (bk_ hn hby) (by decide);refine wp_append_own w s x t ho lo e i z sz bytes ht hi0 hz hsize hb hzs hsz v n xs hs hown.1 ad m c ys hx hlen ?_ h1 (by unfold maxLen;omega) hmx hlo ?_
 ·intro j u hu
  have hj:=(a3_.1 hu).1;obtain⟨b,off,e1,_,_,_,e2⟩:=hc j hj;injection e1 with e1;subst e1;rw[a5_,e2,hu]
 ·intro v' w' h2 h3 _
  exact h v' w' (zfs h2) (zb1 h3 hown.lt) h3
end
theorem zab:(Tryz.prog.info? 22).map (λi=>(i.zero,i.size,i.bytes))=some (some (.slice none 0 0),1,24):=by kernel_rfl
end Go.Proofs.YtfnnhimopokpnaaGreatDoor
