/- Lemmas for this seat; no condition. -/
import Derived.Test.YtfnnhimopokpnaaGreatDoorHDAA
namespace Go.Proofs.YtfnnhimopokpnaaGreatDoor
open Go.RowKit Proofs.Tryz
set_option maxRecDepth 100000
set_option maxHeartbeats 0
set_option linter.all false
def ze9(n:Int):Bool:=decide (0<=n)&&decide (n<=3)
def zcy(i:Nat)(x:Int):Bool:=if i%2=0 then ze9 x else zal x
def zdj:Nat->List Int->Bool
 | _,[]=>true
 | i,x :: r=>zcy i x&&zdj (i+1) r
def zbd(xs:List Int):Bool:=decide (xs.length%2=1)&&decide (xs.length<=41)&&zdj 0 xs
theorem zry(xs:List Int)(k:Nat)(h:k<xs.length):zdj k (xs.drop k)=(zcy k xs[k]&&zdj (k+1) (xs.drop (k+1))):=by
 rw[y_ h];rfl
theorem zpb(xs:List Int)(k:Nat)(h:xs.length<=k):zdj k (xs.drop k)=true:=by
 rw[az_ h];rfl
theorem zpv(xs:List Int):∀ (i k:Nat) (h:k<xs.length),zdj i xs=true->zcy (i+k) xs[k]=true:=by
 induction xs with
 | nil=>intro i k h;simp at h
 | cons x r ih=>
  intro i k h ht;simp only[zdj,j_]at ht;cases k with
  | zero=>exact ht.1
  | succ k=>
   have:=ih (i+1) k (by simpa using h) ht.2;rw[show i+(k+1)=i+1+k by omega];exact this
theorem zo9{xs:List Int}(h:zbd xs=true)(k:Nat)(hk:k<xs.length)(hp:k%2=0):0<=xs[k]/\xs[k]<=3:=by
 simp only[zbd,j_]at h;have:=zpv xs 0 k hk h.2
 simpa [zcy,hp,ze9] using this
theorem zqq{xs:List Int}(h:zbd xs=true)(k:Nat)(hk:k<xs.length)(hp:¬k%2=0):16<=xs[k]/\xs[k]<=18:=by
 simp only[zbd,j_]at h;have:=zpv xs 0 k hk h.2
 simpa [zcy,hp,zal] using this
theorem zw2{xs:List Int}(h:zbd xs=true):xs.length%2=1/\xs.length<=41:=by
 simp only[zbd,j_,t_]at h;exact h.1
theorem zok(n:Int)(w:World):
  Calls prog 184 #[.int .i64 n] w λe w'=>e=.returned (.bool (ze9 n))/\w=w':=by
 go_enter func184,ntmps184
 by_cases h1:0<=n
 ·by_cases h2:n<=3
  ·go_wp2
   go_ret;exact⟨χ (by simp[ze9,h1,h2]),rfl⟩
  ·go_wp2
   go_ret;exact⟨χ (by simp[ze9];omega),rfl⟩
 ·go_wp2
  go_ret;exact⟨χ (by simp[ze9];omega),rfl⟩
theorem zr0(lo hi:Nat)(v:Value)(xs:List Int)(w:World)(hx:SlI lo hi w v xs)(hm:xs.length<=1048576):
  Calls prog 142 #[v] w λe w'=>e=.returned (.bool (zbd xs))/\w=w':=by
 obtain⟨a,cap,rfl,hcap,hcm,hc⟩:=hx.open;clear hx hcm hcap;by_cases h1:xs.length%2=1
 ·have h1':((xs.length:Int)%2 !=1)=false:=by simp;omega
  by_cases h2:xs.length<=41
  ·have H1:=H_ h1
   clear h1
   go_enter func142,ntmps142
   go_wp2
   go_loop [16] (λi=>∃ k:Nat,k<=xs.length/\i=.int .i64 k/\Q_ (zdj k (xs.drop k)=zdj 0 xs)) (λi=>xs.length-(intOf i).toNat)
   case atStart=>exact⟨0,by omega,rfl,H_ rfl⟩
   case round=>
    obtain⟨k,hk,rfl,HT⟩:=hrel;by_cases hlt:k<xs.length
    ·(obtain⟨b,off,rfl,_,_,_,hcell⟩:=hc k hlt);have HS:=H_ (zry xs k hlt);clear hc;by_cases hp:k%2=0
     ·(have hp1:((k:Int)%2==0)=true:=by simp;omega);(have hp2:((k:Int)%2==1)=false:=by simp;omega);have HP:=H_ hp;clear hp;cases hv:ze9 xs[k]
      ·go_wp2_with (go_at_call 184;refine(zok _ _).mono ?_;rintro e w' ⟨rfl,rfl⟩)
       go_ret;exact⟨χ (by simp[zbd,<-HT.o,HS.o,zcy,HP.o,hv]),rfl⟩
      ·go_wp2_with (go_at_call 184;refine(zok _ _).mono ?_;rintro e w' ⟨rfl,rfl⟩)
       go_round
       (case rel=>exact⟨k+1,by omega,by go_num,H_ (by rw[<-HT.o,HS.o];simp[zcy,HP.o,hv])⟩);case measure=>simp[intOf];omega
     ·(have hp1:((k:Int)%2==0)=false:=by simp;omega);(have hp2:((k:Int)%2==1)=true:=by simp;omega);have HP:=H_ hp;clear hp;cases hv:zal xs[k]
      ·go_wp2_with (go_at_call 176;refine(zb3 _ _).mono ?_;rintro e w' ⟨rfl,rfl⟩)
       go_ret;exact⟨χ (by simp[zbd,<-HT.o,HS.o,zcy,HP.o,hv]),rfl⟩
      ·go_wp2_with (go_at_call 176;refine(zb3 _ _).mono ?_;rintro e w' ⟨rfl,rfl⟩)
       go_round
       (case rel=>exact⟨k+1,by omega,by go_num,H_ (by rw[<-HT.o,HS.o];simp[zcy,HP.o,hv])⟩);case measure=>simp[intOf];omega
    ·go_wp2
     go_ret;exact⟨χ (by simp[zbd,<-HT.o,zpb xs k (by omega),H1.o,h2]),rfl⟩
  ·go_enter func142,ntmps142
   go_wp2;go_ret;exact⟨χ (by simp[zbd];omega),rfl⟩
 ·have h1':((xs.length:Int)%2 !=1)=true:=by simp;omega
  go_enter func142,ntmps142
  go_wp2;go_ret;exact⟨χ (by simp[zbd];omega),rfl⟩
theorem zuz(xs:List Int)(k:Nat)(h:k<xs.length)(hp:k%2=0):zcy k xs[k]=inB xs[k] 0 3:=by
 simp[zcy,hp,ze9,inB]
theorem zyt(xs:List Int)(k:Nat)(h:k<xs.length)(hp:¬k%2=0):zcy k xs[k]=inB xs[k] 16 18:=by
 simp[zcy,hp,zal,inB]
theorem zns(lo hi:Nat)(v:Value)(xs:List Int)(w:World)(hx:SlI lo hi w v xs)(hm:xs.length<=1048576):
  Calls prog 116 #[v] w λe w'=>e=.returned (.bool (zbd xs))/\w=w':=by
 obtain⟨a,cap,rfl,hcap,hcm,hc⟩:=hx.open;clear hx hcm hcap
 go_enter func116,ntmps116
 go_wp2
 go_loop [3] (λi=>∃ k:Nat,k<=xs.length/\i=.int .i64 k/\Q_ (zdj k (xs.drop k)=zdj 0 xs)) (λi=>xs.length-(intOf i).toNat)
 case atStart=>exact⟨0,by omega,rfl,H_ rfl⟩
 case round=>
  obtain⟨k,hk,rfl,HT⟩:=hrel;by_cases hlt:k<xs.length
  ·obtain⟨b,off,rfl,_,_,_,hcell⟩:=hc k hlt
   have HS:=H_ (zry xs k hlt);clear hc;by_cases hp:k%2=0
   ·(have hp1:((k:Int)%2==0)=true:=by simp;omega);(have hp2:((k:Int)%2==1)=false:=by simp;omega);have HV:=H_ (zuz xs k hlt hp);clear hp;cases hv:inB xs[k] 0 3
    ·go_wp2_with (go_at_call 101;refine(za0 _ _ _ _).mono ?_;rintro e w' ⟨rfl,rfl⟩)
     go_ret;exact⟨χ (by simp[zbd,<-HT.o,HS.o,HV.o,hv]),rfl⟩
    ·go_wp2_with (go_at_call 101;refine(za0 _ _ _ _).mono ?_;rintro e w' ⟨rfl,rfl⟩)
     go_round
     (case rel=>exact⟨k+1,by omega,by go_num,H_ (by rw[<-HT.o,HS.o];simp[HV.o,hv])⟩);case measure=>simp[intOf];omega
   ·(have hp1:((k:Int)%2==0)=false:=by simp;omega);(have hp2:((k:Int)%2==1)=true:=by simp;omega);have HV:=H_ (zyt xs k hlt hp);clear hp;cases hv:inB xs[k] 16 18
    ·go_wp2_with (go_at_call 101;refine(za0 _ _ _ _).mono ?_;rintro e w' ⟨rfl,rfl⟩)
     go_ret;exact⟨χ (by simp[zbd,<-HT.o,HS.o,HV.o,hv]),rfl⟩
    ·go_wp2_with (go_at_call 101;refine(za0 _ _ _ _).mono ?_;rintro e w' ⟨rfl,rfl⟩)
     go_round
     (case rel=>exact⟨k+1,by omega,by go_num,H_ (by rw[<-HT.o,HS.o];simp[HV.o,hv])⟩);case measure=>simp[intOf];omega
  ·have HE:=H_ (zpb xs k (by omega))
   by_cases h1:xs.length%2=1
   ·(have h1':((xs.length:Int)%2==1)=true:=by simp;omega);(have H1:=H_ h1;clear h1;by_cases h2:xs.length<=41)
    all_goals
     go_wp2;go_ret;exact⟨χ (by simp[zbd,<-HT.o,HE.o,H1.o];omega),rfl⟩
   ·(have h1':((xs.length:Int)%2==1)=false:=by simp;omega);go_wp2;go_ret;exact⟨χ (by simp[zbd];omega),rfl⟩
def zel(i:Nat)(x:Int):UInt8:=UInt8.ofNat (if i%2=0 then 48+x else 81+x).toNat
def zeb:Nat->List Int->List UInt8
 | _,[]=>[]
 | i,x :: r=>zel i x :: zeb (i+1) r
def zew(xs:List Int):List UInt8:=if zbd xs then zeb 0 xs else []
theorem ztc(ys:List Int)(x:Int):∀ i,zeb i (ys++[x])=zeb i ys++[zel (i+ys.length) x]:=by
 induction ys with
 | nil=>intro i;simp[zeb]
 | cons y r ih=>intro i;simp only[aj_,zeb,ih,I_];rw[show i+1+r.length=i+(r.length+1) by omega]
theorem zk8(xs:List Int)(k:Nat)(h:k<xs.length):zeb 0 (xs.take (k+1))=zeb 0 (xs.take k)++[zel k xs[k]]:=by
 rw[bz_,l_ h,Option.toList_some,ztc,am_,U_,eb_ (by omega)]
theorem z0x(xs:List Int):∀ i,(zeb i xs).length=xs.length:=by
 induction xs with
 | nil=>intro i;rfl
 | cons x r ih=>intro i;simp[zeb,ih]
theorem zri(l m:List UInt8):(Value.string ({ data:=l.toArray }++{ data:=m.toArray }))=.string ⟨(l++m).toArray⟩:=by
 rw[bn_]
theorem z1b(w:World)(n:Int):Sem.run prog (convert 40 9 (.slice (q_ w 0) 1 1)) (w.alloc (.cells #[.int .u8 n] 5)) =
    .ok (.string ⟨[UInt8.ofNat n.toNat].toArray⟩) (w.alloc (.cells #[.int .u8 n] 5)):=by
  have h:=dk_ (P:=prog) (w:=w.alloc (.cells #[.int .u8 n] 5)) 40 5 underlying40 underlying5 w 0 1 1 [n] rfl
    (by intro i hi; obtain rfl : i = 0 := by omega
        rw[World.cell?,ba_];rfl) 9 underlying9
  exact h
theorem zyj(lo hi:Nat)(v:Value)(xs:List Int)(w:World)(hx:SlI lo hi w v xs)(hm:xs.length<=1048576)(hhi:hi<=w):
  c_ 60 #[v] w (.string ⟨(zew xs).toArray⟩):=by
 have hx0:=hx;obtain⟨a,cap,rfl,hcap,hcm,hc⟩:=hx.open;clear hx hcm hcap hc;cases hv:zbd xs
 ·have HX:=H_ hx0
  clear hx0
  go_enter func60,ntmps60
  go_wp2;refine wp_loop_once ?_;by_cases hl:0<xs.length
  all_goals
   go_wp2_with (go_at_call 116;refine(zns _ _ _ xs _ HX.o hm).mono ?_;rintro e w' ⟨rfl,rfl⟩)
   go_ret;exact⟨zbw (a:=[]) (by simp[zew,hv]),B_ _ _⟩
 ·go_enter func60,ntmps60
  go_wp2;go_loopw [3,4] (λs i wr=>∃ k:Nat,∃ l:List UInt8,k<=xs.length/\i=.int .i64 k/\s=.string ⟨l.toArray⟩/\l.length<=k/\Q_ (l=zeb 0 (xs.take k))/\Below w w wr) (λ_ i _=>xs.length-(intOf i).toNat)
  case atStart=>exact⟨0,[],by omega,rfl,rfl,le_ _,H_ rfl,B_ _ _⟩
  case round=>
   obtain⟨k,l,hk,rfl,rfl,hll,HL,hb⟩:=hrel;have hx1:=hx0.below hb hhi;by_cases hlt:k<xs.length
   ·(obtain⟨b,off,rfl,_,_,hbs,hcell⟩:=hx1.get k hlt);(have HX:=H_ hx1;have hcv:=λn=>z1b wr n);have HB:=H_ (λo=>hb.alloc hb.size o);clear hx0 hx1 hb;by_cases hp:k%2=0
    ·(have hp1:((k:Int)%2==0)=true:=by simp;omega);(obtain⟨hr1,hr2⟩:=zo9 hv k hlt hp;have HT:=H_ (show zel k xs[k]=UInt8.ofNat (48+xs[k]).toNat by simp[zel,hp]);clear hp;go_wp2_with (go_at_call 116;refine(zns _ _ _ xs _ HX.o hm).mono ?_;rintro e w' ⟨rfl,rfl⟩));go_roundw
     (case rel=>exact⟨k+1,l++[UInt8.ofNat (48+xs[k]).toNat],by omega,by go_num,zri _ _,by simp;omega,H_ (by rw[zk8 xs k hlt,HL.o,HT.o]),HB.o _⟩);case measure=>simp[intOf];omega
    ·(have hp1:((k:Int)%2==0)=false:=by simp;omega);(obtain⟨hr1,hr2⟩:=zqq hv k hlt hp;have HT:=H_ (show zel k xs[k]=UInt8.ofNat (97+xs[k]-16).toNat by simp[zel,hp];congr 2;omega);clear hp;go_wp2_with (go_at_call 116;refine(zns _ _ _ xs _ HX.o hm).mono ?_;rintro e w' ⟨rfl,rfl⟩));go_roundw
     (case rel=>exact⟨k+1,l++[UInt8.ofNat (97+xs[k]-16).toNat],by omega,by go_num,zri _ _,by simp;omega,H_ (by rw[zk8 xs k hlt,HL.o,HT.o]),HB.o _⟩);case measure=>simp[intOf];omega
   ·(obtain rfl:k=xs.length:=by omega);have HX:=H_ hx1;clear hx0 hx1;go_wp2;go_ret;exact⟨zbw (by rw[HL.o,Y_];simp[zew,hv]),hb⟩
end Go.Proofs.YtfnnhimopokpnaaGreatDoor
