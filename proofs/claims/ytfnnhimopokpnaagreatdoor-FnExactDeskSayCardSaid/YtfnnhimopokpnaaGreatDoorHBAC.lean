/- Lemmas for this seat; no condition. -/
import Derived.Test.YtfnnhimopokpnaaGreatDoorHBAB
import Derived.Deep.RegionHeldLaw
import Derived.Deep.RegionHeld3
namespace Go.Proofs.YtfnnhimopokpnaaGreatDoor
open Go.RowKit Proofs.Tryz
set_option maxRecDepth 100000
set_option maxHeartbeats 0
set_option linter.all false
variable {w w':World} {xs ys:List Mv} {base e sz g n lo hi B lo' hi':Nat} {c d:Value}
theorem zfb.bytes {a:Option Addr} {len cap:Nat} {zs:List Int}(h:zfb .u8 w a len cap zs):∃ xs,SlB 0 w w (.slice a len cap) xs:=by
 obtain⟨h1,h2⟩:=h.sl;refine⟨zs.take len,?_,?_⟩
 ·rw[h1];exact h2
 ·intro x hx
  have hx':=aw_ hx;rcases h with⟨_,_,_,rfl⟩|⟨_,_,_,_,_,_,hw⟩
  ·simp at hx'
  ·have:=hw x hx'
   simp[Lit.wf,IntKind.min,IntKind.max,IntKind.signed,IntKind.bits]at this;omega
theorem zzc(m:Mv)(w:World):
  Calls prog 75 #[.agg #[.int .i64 m.which,.bool m.back,.int .i64 m.at_]] w λe w'=>e=.returned (.agg #[.int .i64 m.which,.bool m.back,.int .i64 m.at_])/\Below w w w':=by
 go_enter func75,ntmps75
 go_wp2;refine a_ (v:=.agg #[.int .i64 m.which,.bool m.back,.int .i64 m.at_]) (by simp[results,results75,go_sem]) rfl ⟨rfl,?_⟩;exact(((B_ _ _).alloc (le_ _) _).alloc (by simp) _).alloc (by simp;omega) _
def zeb(m n:Mv):Bool:=decide (m=n)
theorem ztk(m n:Mv)(w:World):
  Calls prog 78 #[.agg #[.int .i64 m.which,.bool m.back,.int .i64 m.at_],.agg #[.int .i64 n.which,.bool n.back,.int .i64 n.at_]] w λe w'=>e=.returned (.bool (zeb m n))/\Below w w w':=by
 obtain⟨a1,a2,a3⟩:=m;obtain⟨b1,b2,b3⟩:=n;have hb:Q_ (∀ o1 o2,Below w w ((w.alloc o1).alloc o2)):=H_ λo1 o2=>((B_ _ _).alloc (le_ _) _).alloc (by simp) _
 by_cases h1:a1=b1
 ·subst h1
  by_cases h2:a2=b2
  ·subst h2
   by_cases h3:a3=b3
   ·subst h3
    (have e1:(a1 !=a1)=false:=by simp);(have e3:(a3 !=a3)=false:=by simp);go_enter func78,ntmps78
    go_wp2;go_ret;exact⟨ξ (by simp[zeb]),hb.o _ _⟩
   ·(have e1:(a1 !=a1)=false:=by simp);(have e3:(a3 !=b3)=true:=by simp[h3]);(have H3:=H_ h3;clear h3);go_enter func78,ntmps78
    go_wp2;go_ret;exact⟨ξ (by simp[zeb,H3.o]),hb.o _ _⟩
  ·have e1:(a1 !=a1)=false:=by simp
   have e2:(a2==b2)=false:=by simp[h2]
   have H2:=H_ h2;clear h2
   go_enter func78,ntmps78
   go_wp2;go_ret;exact⟨ξ (by simp[zeb,H2.o]),hb.o _ _⟩
 ·have e1:(a1 !=b1)=true:=by simp[h1]
  have H1:=H_ h1;clear h1
  go_enter func78,ntmps78
  go_wp2;go_ret;exact⟨ξ (by simp[zeb,H1.o]),hb.o _ _⟩
def ze1(xs ys:List Mv):Bool:=decide (xs=ys)
theorem zzy(h:xs.length≠ys.length):ze1 xs ys=false:=by
 unfold ze1;rw[bw_];intro e;exact h (by rw[e])
theorem zwn {k:Nat}(h1:k<xs.length)(h2:k<ys.length)(h:zeb xs[k] ys[k]=false):ze1 xs ys=false:=by
 unfold ze1;rw[bw_];intro e;subst e;simp[zeb] at h
theorem zxk(hl:xs.length=ys.length)(h:∀ j (h1:j<xs.length) (h2:j<ys.length),xs[j]=ys[j]):ze1 xs ys=true:=by
 unfold ze1;rw[m_];exact av_ hl h
theorem ztq(lo hi lo' hi':Nat)(v v':Value)(xs ys:List Mv)(w:World)(hx:SlM lo hi w v xs)(hy:SlM lo' hi' w v' ys)(hh:hi<=w)(hh':hi'<=w)(hm:xs.length<=1048576):
    Calls prog 39 #[v,v'] w λe w'=>e=.returned (.bool (ze1 xs ys))/\Below w w w':=by
  obtain⟨a,cap,rfl,hcap,hcm⟩:=hx.shape;obtain⟨a',cap',rfl,hcap',hcm'⟩:=hy.shape;have HX:=H_ hx;have HY:=H_ hy;clear hx hy hcm hcm' hcap hcap';by_cases hl:xs.length=ys.length
  · have HL:=H_ hl
    (have hl1:((xs.length:Int) !=ys.length)=false:=by simp[hl]);(have hm':ys.length<=1048576:=by omega);clear hl
    go_enter func39,ntmps39
    go_wp2;go_loopw [5] (λi wr=>∃ k:Nat,k<=xs.length/\i=.int .i64 k/\Q_ (∀ j (h1:j<k) (h2:j<xs.length) (h3:j<ys.length),xs[j]=ys[j])/\Below w w wr) (λi _=>xs.length-(intOf i).toNat)
    case atStart=>exact⟨0,by omega,rfl,H_ (by intro j h;omega),B_ _ _⟩
    case round=>
      obtain⟨k,hk,rfl,HJ,hb⟩:=hrel;by_cases hlt:k<xs.length
      · have hlt':k<ys.length:=by have:=HL.o;omega
        (obtain⟨b,off,rfl,_,_,hbs,c1,c2,c3⟩:=(HX.o.below hb hh).get k hlt;obtain⟨b',off',rfl,_,_,hbs',c1',c2',c3'⟩:=(HY.o.below hb hh').get k hlt';have HB:=H_ hb;have hsz:=hb.size;clear hb;go_wp2);go_region_with (go_at_call 78;refine(ztk xs[k] ys[k] _).mono ?_;rintro e w1 ⟨rfl,hb1⟩)
        all_goals go_wp2
        all_goals first
          | (go_ret
             (have hv':(!zeb xs[k] ys[k])=true:=by assumption);(have hv:zeb xs[k] ys[k]=false:=by simpa using hv');exact⟨ξ (zwn hlt hlt' hv).symm,HB.o.drew.trans (hb1.mono hsz)⟩)
          | (go_roundw
             case rel=>
               (have hv':(!zeb xs[k] ys[k])=false:=by assumption);(have hv:zeb xs[k] ys[k]=true:=by simpa using hv');refine⟨k+1,by omega,by go_num,H_ ?_,HB.o.drew.trans (hb1.mono hsz)⟩;intro j h1 h2 h3;rcases ay_ j k with h|h
               · exact HJ.o j h h2 h3
               · obtain rfl:j=k:=by omega
                 simpa [zeb] using hv
             case measure=>simp[intOf];omega)
      · go_wp2
        go_ret;exact⟨ξ (zxk HL.o λj h1 h2=>HJ.o j (by omega) h1 h2).symm,hb⟩
  · have HL:=H_ hl
    (have hl1:((xs.length:Int) !=ys.length)=true:=by simp;omega);clear hl
    go_enter func39,ntmps39
    go_wp2;go_ret;exact⟨ξ (zzy HL.o).symm,B_ _ _⟩
def mvK(k:Int):Mv:=⟨k,(k+1)%3==0,k+2⟩
def zdm(k:Int)(n:Nat):List Mv:=(List.range n).map (λi=>mvK (k+3*(i:Nat)))
theorem zf2(k:Int)(n:Nat):(zdm k n).length=n:=by simp[zdm]
theorem zrq(k:Int)(n i:Nat)(h:i<n):(zdm k n)[i]'(by rw[zf2];exact h)=mvK (k+3*(i:Nat)):=by simp[zdm]
theorem zre(ys xs:List Mv)(hl:ys.length=xs.length)(k:Nat)(h:k<xs.length):
  (((over (mvs ys) (mvs xs) (k*3)).set (k*3) (.int .i64 (ys[k]'(by omega)).which)).set (k*3+1) (.bool (ys[k]'(by omega)).back)).set (k*3+2) (.int .i64 (ys[k]'(by omega)).at_)=over (mvs ys) (mvs xs) ((k+1)*3):=by
 have h1:=zbz ys;have h2:=zbz xs;obtain⟨g1,g2,g3⟩:=zkt ys k (by omega);rw[zf4 _ _ _ (by omega) (by omega) _ g1,zf4 _ _ _ (by omega) (by omega) _ g2,zf4 _ _ _ (by omega) (by omega) _ g3]
 congr 1
 omega
theorem ztu(lo hi:Nat)(v:Value)(xs:List Mv)(k:Int)(w:World)(hx:Ι lo hi 67 w v xs)(hm:xs.length<=1048576)(hk0:0<=k)(hk1:k<=1000000000000):
  Calls prog 41 #[v,.int .i64 k] w λe w'=>
   e=.returned (.int .i64 (k+3*xs.length))/\β lo hi w w'/\Ι lo hi 67 w' v (zdm k xs.length):=by
 have hx':=hx;obtain⟨a,cap,rfl,hcap,hcm,hlen,hopen⟩:=ι hx;have hown0:=hx'.1;have HLT:=H_ hx'.2;clear hx hx' hlen
 go_enter func41,ntmps41
 go_wp2;go_loopw [1,5] (λc i wr=>∃ j:Nat,j<=xs.length/\i=.int .i64 j/\c=.int .i64 (k+3*j)/\wr.ownsRow lo 67 3 (.slice a xs cap) xs.length (over (mvs (zdm k xs.length)) (mvs xs) (j*3))/\β lo hi w wr) (λ_ i _=>xs.length-(intOf i).toNat)
 case atStart=>exact⟨0,by omega,rfl,by simp,by rw[Nat.zero_mul,zhu];exact hown0,β.refl _ _ _⟩
 case round=>
  obtain⟨j,hj,rfl,rfl,hown,hout⟩:=hrel;clear hown0;by_cases hlt:j<xs.length
  ·obtain⟨g,rfl,hg1,hg2⟩:=hopen (by omega)
   have hl1:(mvs (zdm k xs.length)).length=(mvs xs).length:=by rw[zbz,zbz,zf2]
   have hl2:=zbz xs;have hw0:wr.cell? (p_ g (j*3))=(mvs xs)[j*3]?:=by rw[hown.cellAt _ (by omega),zh1 _ _ _ hl1 (by omega)]
   have hol:=zko (mvs (zdm k xs.length)) (mvs xs) (j*3) hl1;obtain⟨y1,hw1⟩:∃ y,wr.cell? ⟨g,j*3,none⟩=some y:=⟨_,by rw[hown.cellAt _ (by omega)];exact c_ (by omega)⟩;obtain⟨y2,hw2⟩:∃ y,wr.cell? ⟨g,j*3+1,none⟩=some y:=⟨_,by rw[hown.cellAt _ (by omega)];exact c_ (by omega)⟩;obtain⟨y3,hw3⟩:∃ y,wr.cell? ⟨g,j*3+2,none⟩=some y:=⟨_,by rw[hown.cellAt _ (by omega)];exact c_ (by omega)⟩;have hf1:=hown.frozenAt (j*3);have hf2:=hown.frozenAt (j*3+1);have hf3:=hown.frozenAt (j*3+2);have hg:=zrq k xs.length j hlt
   have HS:Q_ ((((wr.setCell (p_ g (j*3)) (.int .i64 (k+3*j))).setCell (p_ g (j*3+1)) (.bool ((k+3*j+1)%3==0))).setCell (p_ g (j*3+2)) (.int .i64 (k+3*j+1+1))).ownsRow lo 67 3 (.slice (some ⟨g,0,none⟩) xs cap) xs.length (over (mvs (zdm k xs.length)) (mvs xs) ((j+1)*3))):=by
    (have h1:=(hown.stored (j*3) (.int .i64 (k+3*j))).1;have h2:=(h1.stored (j*3+1) (.bool ((k+3*j+1)%3==0))).1;have h3:=(h2.stored (j*3+2) (.int .i64 (k+3*j+1+1))).1;have h4:=zre (zdm k xs.length) xs (zf2 _ _) j hlt;rw[hg]at h4;simp only[mvK]at h4;rw[<-h4];have e:k+3*(j:Int)+2=k+3*j+1+1:=by omega);rw[e];exact H_ h3
   have HO:=H_ (((hout.setCell (p:=p_ g (j*3)) hg1 hg2 (.int .i64 (k+3*j))).setCell (p:=p_ g (j*3+1)) hg1 hg2 (.bool ((k+3*j+1)%3==0))).setCell (p:=p_ g (j*3+2)) hg1 hg2 (.int .i64 (k+3*j+1+1)));clear hopen hown hout hl1 hl2 hw0 hol hg;go_wp2;go_roundw
   case rel=>
    exact⟨j+1,by omega,by go_num,by congr 1;omega,HS.o,HO.o⟩
   case measure=>simp[intOf];omega
  ·obtain rfl:j=xs.length:=by omega
   go_wp2;go_ret;rw[zia _ _ _ (by rw[zbz];exact le_ _) (by rw[zbz,zf2];exact le_ _)]at hown;exact⟨rfl,hout,by rw[zf2];exact hown,HLT.o⟩
theorem zzg(lo hi:Nat)(v:Value)(n:Nat)(k:Int)(w:World)(hx:SlM lo hi w v (zdm k n))(hm:n<=1048576)(hk0:0<=k)(hk1:k<=1000000000000):
  Calls prog 44 #[v,.int .i64 k] w λe w'=>
   e=.returned (.int .i64 (k+3*n))/\w'=w:=by
 obtain⟨a,cap,rfl,hcap,hcm⟩:=hx.shape;have HX:=H_ hx;rw[zf2]at *;clear hx
 go_enter func44,ntmps44
 go_wp2
 go_loop [1,5] (λc i=>∃ j:Nat,j<=n/\i=.int .i64 j/\c=.int .i64 (k+3*j)) (λ_ i=>n-(intOf i).toNat)
 case atStart=>exact⟨0,by omega,rfl,by simp⟩
 case round=>
  obtain⟨j,hj,rfl,rfl⟩:=hrel;by_cases hlt:j<n
  ·obtain⟨b,off,rfl,_,_,_,c1,c2,c3⟩:=HX.o.get j (by rw[zf2];exact hlt)
   rw[zrq k n j hlt]at c1 c2 c3;simp only[mvK]at c1 c2 c3;have ht:((k+3*j:Int) !=k+3*j)=false:=by simp
   have ht2:((k+3*j+2:Int) !=k+3*j+1+1)=false:=by simp;omega
   go_wp2;go_round
   case rel=>exact⟨j+1,by omega,by go_num,by congr 1;omega⟩
   case measure=>simp[intOf];omega
  ·obtain rfl:j=n:=by omega
   go_wp2;go_ret;exact⟨rfl,rfl⟩
theorem zd0:(Tryz.prog.info? 67).map (λi=>(i.zero,i.size,i.bytes))=some (some (.agg #[(0:Int),.bool false,(0:Int)]),3,24):=by kernel_rfl
def mv0:Mv:=⟨0,false,0⟩
theorem z0c(n:Nat):(madeCells #[(0:Int),.bool false,(0:Int)] (n*3)).toList=mvs (List.replicate n mv0):=by
 induction n with
 | zero=>simp[madeCells,mvs]
 | succ n ih=>
  rw[List.replicate_succ',mvs,List.flatMap_append];rw[show List.flatMap zap (List.replicate n mv0)=mvs (List.replicate n mv0) from rfl,<-ih];simp only[madeCells,Array.toList_map,Array.toList_range];rw[show (n+1)*3=n*3+3 by omega,List.range_add,as_]
  congr 1
  simp[List.range_succ,Nat.add_mod,zap,mv0]
theorem ztr {c:Nat} {xs:List Value}(h:w.ownsRow base e sz (.slice (some ⟨g,0,none⟩) n c) n xs):g<w:=by
 rcases h.2 with⟨h,_⟩|⟨g',cap',cur,h,_,h2,_⟩
 ·simp at h
 ·simp only[Value.slice.injEq,Z_,Addr.mk.injEq]at h
  rw[h.1.1];exact(v_.1 h2).1
theorem zxz {c:Nat} {xs:List Value}(h:w.ownsRow base e sz (.slice (some ⟨g,0,none⟩) n c) n xs)(hb:Below w w w'):w'.ownsRow base e sz (.slice (some ⟨g,0,none⟩) n c) n xs:=
 (zeu (hi:=g+1) ⟨h,λg' hg=>by simp[Value.ownBlock] at hg;omega⟩ hb (ztr h)).1
theorem z0s(lo hi:Nat)(v:Value)(xs:List Mv)(w:World)(hx:SlM lo hi w v xs)(hh:hi<=w)(hm:xs.length<=1048576):
  Calls prog 36 #[v] w (η λv' w'=>Below w w w'/\Ι w w' 67 w' v' xs):=by
 obtain⟨i0,hi',hz0,hz1,hz2⟩:=bc_ zd0;obtain⟨a,cap,rfl,hcap,hcm⟩:=hx.shape;have HX:=H_ hx;clear hx hcm
 go_enter func36,ntmps36
 go_wp2_with ((at_make;refine di_ _ rfl _ _ 29 rfl w.heap.size 67 i0 (.agg #[(0:Int),.bool false,(0:Int)]) 3 underlying29 hi' hz0 hz1 .i64 .i64 xs.length xs.length xs.length rfl rfl rfl rfl ?c1 ?c2 ?c3 ?c4))
 case c1=>rw[hz2];omega
 case c2=>simp[maxLen];omega
 case c3=>exact le_ _
 case c4=>
  intro w1 hown hg;have hb1:Below w w w1:=(B_ _ _).grown hg (le_ _) (by simp);rw[z0c]at hown;clear hg hi' hz0 hz1 hz2;go_wp2;go_loopw [4] (λi wr=>∃ k,k<=xs.length/\i=.int .i64 k/\wr.ownsRow w 67 3 (.slice (some ⟨w,0,none⟩) xs xs.length) xs.length (over (mvs xs) (mvs (List.replicate xs.length mv0)) (k*3))/\Below w w wr) (λi _=>xs.length-(intOf i).toNat)
  case atStart=>exact⟨0,by omega,rfl,by rw[Nat.zero_mul,zhu];exact hown,hb1⟩
  case round=>
   obtain⟨k,hk,rfl,hown,hbk⟩:=hrel;clear hb1;by_cases hlt:k<xs.length
   ·(obtain⟨b,off,rfl,_,hbh,hbs,q0,q1,q2⟩:=(HX.o.below hbk hh).get k hlt);(have HO:=H_ hown;have HB:=H_ hbk;have hsz:=hbk.size;clear hown hbk;go_wp2_with fail);refine(zzc xs[k] _).mono ?_;rintro e w2 ⟨rfl,hb2⟩;have HB2:=HB.tr hb2 hsz;have hown:=zxz HO.o hb2;clear hb2 q0 q1 q2;have hl1:(mvs xs).length=(mvs (List.replicate xs.length mv0)).length:=by rw[zbz,zbz,b4_]
    (have hl2:=zbz xs;have hol:=zko (mvs xs) (mvs (List.replicate xs.length mv0)) (k*3) hl1;obtain⟨y0,hw0⟩:∃ y,w2.cell? ⟨w,k*3,none⟩=some y:=⟨_,by rw[hown.cellAt _ (by omega)];exact c_ (by omega)⟩;obtain⟨y1,hw1⟩:∃ y,w2.cell? ⟨w,k*3+1,none⟩=some y:=⟨_,by rw[hown.cellAt _ (by omega)];exact c_ (by omega)⟩;obtain⟨y2,hw2⟩:∃ y,w2.cell? ⟨w,k*3+2,none⟩=some y:=⟨_,by rw[hown.cellAt _ (by omega)];exact c_ (by omega)⟩;have hf0:=hown.frozenAt (k*3);have hf1:=hown.frozenAt (k*3+1);have hf2:=hown.frozenAt (k*3+2))
    have HS:Q_ ((((w2.setCell (p_ w (k*3)) (.int .i64 xs[k].which)).setCell (p_ w (k*3+1)) (.bool xs[k].back)).setCell (p_ w (k*3+2)) (.int .i64 xs[k].at_)).ownsRow w 67 3 (.slice (some ⟨w,0,none⟩) xs xs.length) xs.length (over (mvs xs) (mvs (List.replicate xs.length mv0)) ((k+1)*3))):=by
     have h1:=(hown.stored (k*3) (.int .i64 xs[k].which)).1;have h2:=(h1.stored (k*3+1) (.bool xs[k].back)).1;have h3:=(h2.stored (k*3+2) (.int .i64 xs[k].at_)).1;rw[zre xs (List.replicate xs.length mv0) (by rw[b4_]) k (by rw[b4_];exact hlt)]at h3;exact H_ h3
    (have HBS:=H_ (((HB2.o.setCell (p:=p_ w (k*3)) (le_ _) (.int .i64 xs[k].which)).setCell (p:=p_ w (k*3+1)) (le_ _) (.bool xs[k].back)).setCell (p:=p_ w (k*3+2)) (le_ _) (.int .i64 xs[k].at_));clear hown hl1 hl2 hol;go_wp2;go_roundw);(case rel=>exact⟨k+1,by omega,by go_num,HS.o,HBS.o⟩);case measure=>simp[intOf];omega
   ·(obtain rfl:k=xs.length:=by omega);go_wp2;go_ret;rw[zia _ _ _ (by rw[zbz,b4_];exact le_ _) (by rw[zbz];exact le_ _)]at hown;exact .mk _ rfl ⟨hbk,hown,λg hg=>(hown.lt g hg).2⟩
theorem zn9(n:Nat)(a:Option Addr)(cap:Nat)(k r:Int)(hn:n<=9223372036854775807)(hk:k<=1048576)(hk2:-1<=k)(h1:k-n<0->r=-1)(h2:0<=k-n->r=k-n)(w:World):
  Calls prog 33 #[.slice a n cap,.int .i64 k] w λe w'=>e=.returned r/\w=w':=by
 by_cases h:k-n<0
 ·obtain rfl:=h1 h
  go_enter func33,ntmps33
  go_wp2;go_ret;exact⟨rfl,rfl⟩
 ·obtain rfl:=h2 (by omega)
  go_enter func33,ntmps33
  go_wp2;go_ret;exact⟨rfl,rfl⟩
theorem Own.shape {v:Value} {xs:List Value}(h:Own sz lo hi e w v n xs):∃ a cap,v=.slice a n cap:=by
 obtain⟨a,cap,h,_⟩:=ι h;exact⟨a,cap,h⟩
def ζ:=@Own.shape
structure Dsk where
 first:List Int
 goal:List Int
 made:List Mv
 now:List Int
deriving DecidableEq
def Dsk.size(d:Dsk):Nat:=d.first.length+d.goal.length+d.made.length+d.now.length
structure Η(lo hi:Nat)(w:World)(a b c d:Value)(D:Dsk):Prop where
 first:SlI lo hi w a D.first
 goal:SlI lo hi w b D.goal
 made:SlM lo hi w c D.made
 now:SlI lo hi w d D.now
theorem Η.below {a b:Value} {D:Dsk}(h:Η lo hi w a b c d D)(hb:Below B w w')(hB:hi<=B):Η lo hi w' a b c d D:=
 ⟨h.first.below hb hB,h.goal.below hb hB,h.made.below hb hB,h.now.below hb hB⟩
theorem Η.outside {a b:Value} {D:Dsk}(h:Η lo hi w a b c d D)(hb:β lo' hi' w w')(hd:hi<=lo'\/hi'<=lo):Η lo hi w' a b c d D:=
 ⟨h.first.outside hb hd,h.goal.outside hb hd,h.made.outside hb hd,h.now.outside hb hd⟩
theorem Η.wide {a b:Value} {D:Dsk}(h:Η lo hi w a b c d D)(h1:lo'<=lo)(h2:hi<=hi'):Η lo' hi' w a b c d D:=
 ⟨h.first.wide h1 h2,h.goal.wide h1 h2,h.made.wide h1 h2,h.now.wide h1 h2⟩
structure Ζ(lo hi:Nat)(w:World)(a b c d:Value)(D:Dsk):Prop where
 ranges:∃ l1 h1 l2 h2 l3 h3 l4 h4,γ l1 h1 3 w a D.first/\γ l2 h2 3 w b D.goal/\Ι l3 h3 67 w c D.made/\γ l4 h4 3 w d D.now /\
  (lo<=l1/\l1<=h1/\h1<=hi)/\(lo<=l2/\l2<=h2/\h2<=hi)/\(lo<=l3/\l3<=h3/\h3<=hi)/\(lo<=l4/\l4<=h4/\h4<=hi) /\
  (h1<=l2\/h2<=l1)/\(h1<=l3\/h3<=l1)/\(h1<=l4\/h4<=l1)/\(h2<=l3\/h3<=l2)/\(h2<=l4\/h4<=l2)/\(h3<=l4\/h4<=l3)
theorem Ζ.at {a b:Value} {D:Dsk}(h:Ζ lo hi w a b c d D):Η lo hi w a b c d D:=by
 obtain⟨l1,h1,l2,h2,l3,h3,l4,h4,o1,o2,o3,o4,r1,r2,r3,r4,_⟩:=h;exact⟨o1.sl.wide r1.1 r1.2.2,o2.sl.wide r2.1 r2.2.2,o3.sl.wide r3.1 r3.2.2,o4.sl.wide r4.1 r4.2.2⟩
theorem Ζ.below {a b:Value} {D:Dsk}(h:Ζ lo hi w a b c d D)(hb:Below B w w')(hB:hi<=B):Ζ lo hi w' a b c d D:=by
 obtain⟨l1,h1,l2,h2,l3,h3,l4,h4,o1,o2,o3,o4,r1,r2,r3,r4,rest⟩:=h;exact⟨l1,h1,l2,h2,l3,h3,l4,h4,o1.below hb (by omega),o2.below hb (by omega),o3.below hb (by omega),o4.below hb (by omega),r1,r2,r3,r4,rest⟩
theorem Ζ.outside {a b:Value} {D:Dsk}(h:Ζ lo hi w a b c d D)(hb:β lo' hi' w w')(hd:hi<=lo'\/hi'<=lo):Ζ lo hi w' a b c d D:=by
 obtain⟨l1,h1,l2,h2,l3,h3,l4,h4,o1,o2,o3,o4,r1,r2,r3,r4,rest⟩:=h;exact⟨l1,h1,l2,h2,l3,h3,l4,h4,o1.outside hb (by omega),o2.outside hb (by omega),o3.outside hb (by omega),o4.outside hb (by omega),r1,r2,r3,r4,rest⟩
theorem Ζ.wide {a b:Value} {D:Dsk}(h:Ζ lo hi w a b c d D)(h1:lo'<=lo)(h2:hi<=hi'):Ζ lo' hi' w a b c d D:=by
 obtain⟨l1,h1,l2,h2,l3,h3,l4,h4,o1,o2,o3,o4,r1,r2,r3,r4,rest⟩:=h;exact⟨l1,h1,l2,h2,l3,h3,l4,h4,o1,o2,o3,o4,by omega,by omega,by omega,by omega,rest⟩
def Dsk.mark(d:Dsk)(k:Int):Dsk:=
 ⟨zcw k d.first.length,zcw (k+d.first.length) d.goal.length,zdm (k+d.first.length+d.goal.length) d.made.length,zcw (k+d.first.length+d.goal.length+3*d.made.length) d.now.length⟩
def Dsk.count(d:Dsk)(k:Int):Int:=k+d.first.length+d.goal.length+3*d.made.length+d.now.length
theorem zg1(xs:List Int):eqL xs xs=true:=by simp[eqL]
theorem zl2(lo hi lo' hi':Nat)(v v':Value)(xs:List Int)(w:World)(hx:SlI lo hi w v xs)(hy:SlI lo' hi' w v' xs)(hm:xs.length<=1048576):
  Calls prog 38 #[v,v'] w λe w'=>e=.returned true/\Below w w w':=by
 refine(zy8 lo hi lo' hi' v v' xs xs w hx hy hm).mono ?_;rintro e w' ⟨rfl,m,rfl⟩;rw[zg1];exact⟨rfl,S_ (B_ _ _) _⟩
theorem zt3(lo hi lo' hi':Nat)(v v':Value)(xs:List Mv)(w:World)(hx:SlM lo hi w v xs)(hy:SlM lo' hi' w v' xs)(hh:hi<=w)(hh':hi'<=w)(hm:xs.length<=1048576):
  Calls prog 39 #[v,v'] w λe w'=>e=.returned true/\Below w w w':=by
 refine(ztq lo hi lo' hi' v v' xs xs w hx hy hh hh' hm).mono ?_;rintro e w' ⟨rfl,h⟩;rw[show ze1 xs xs=true by simp[ze1]];exact⟨rfl,h⟩
abbrev ν(a b c d:Value):Value:=.agg #[a,b,c,d]
theorem zil(lo hi lo' hi':Nat)(a b c d a' b' c' d':Value)(D:Dsk)(w:World)(hx:Η lo hi w a b c d D)(hy:Η lo' hi' w a' b' c' d' D)(hh:hi<=w)(hh':hi'<=w)(hm:D.size<=1048576):
  Calls prog 13 #[ν a b c d,ν a' b' c' d'] w λe w'=>e=.returned true/\Below w w w':=by
 unfold Dsk.size at hm;have HX:=H_ hx;have HY:=H_ hy;clear hx hy;have⟨w0,hw0⟩:=ex_ ((w.alloc (.cells #[a,b,c,d] 31)).alloc (.cells #[a',b',c',d'] 31));have HB0:Q_ (Below w w w0):=by rw[hw0];exact H_ (((B_ _ _).alloc (le_ _) _).alloc (by simp) _)
 have K1:Q_ (Blk w (.cells #[a,b,c,d] 31) w0):=by
  rw[hw0];exact H_ ((θ w _).below ((B_ (w.alloc _).heap.size _).alloc (le_ _) _) (by simp))
 have K2:Q_ (Blk (w+1) (.cells #[a',b',c',d'] 31) w0):=by
  have:=θ (w.alloc (.cells #[a,b,c,d] 31)) (.cells #[a',b',c',d'] 31);rw[κ]at this;rw[hw0];exact H_ this
 have hsz:w+2<=w0.heap.size:=by rw[hw0];simp
 go_enter func13,ntmps13
 go_wp2_with fail
 simp only[<-hw0];clear hw0;refine(zl2 _ _ _ _ _ _ D.first _ (HX.o.first.below HB0.o hh) (HY.o.first.below HB0.o hh') (by omega)).mono ?_;rintro e w1 ⟨rfl,hb⟩;have HB1:=HB0.tr hb (by omega);replace K1:=H_ (K1.o.below hb (by omega));replace K2:=H_ (K2.o.below hb (by omega));have hs1:=hb.size;have c0:=K1.o.cell 1;have c1:=K2.o.cell 1;clear hb;go_wp2_with fail
 clear c0 c1;refine(zl2 _ _ _ _ _ _ D.goal _ (HX.o.goal.below HB1.o hh) (HY.o.goal.below HB1.o hh') (by omega)).mono ?_;rintro e w2 ⟨rfl,hb⟩;have HB2:=HB1.tr hb (by omega);replace K1:=H_ (K1.o.below hb (by omega));replace K2:=H_ (K2.o.below hb (by omega));have hs2:=hb.size;have c0:=K1.o.cell 2;have c1:=K2.o.cell 2;clear hb;go_wp2_with fail
 clear c0 c1;refine(zt3 _ _ _ _ _ _ D.made _ (HX.o.made.below HB2.o hh) (HY.o.made.below HB2.o hh') (by omega) (by omega) (by omega)).mono ?_;rintro e w3 ⟨rfl,hb⟩;have HB3:=HB2.tr hb (by omega);replace K1:=H_ (K1.o.below hb (by omega));replace K2:=H_ (K2.o.below hb (by omega));have c0:=K1.o.cell 3;have c1:=K2.o.cell 3;clear hb;go_wp2_with fail
 refine(zl2 _ _ _ _ _ _ D.now _ (HX.o.now.below HB3.o hh) (HY.o.now.below HB3.o hh') (by omega)).mono ?_;rintro e w4 ⟨rfl,hb⟩;have HB4:=HB3.ts hb;clear hb;go_wp2;go_ret;exact⟨rfl,HB4.o⟩
theorem zm8(lo hi:Nat)(a b c d:Value)(D:Dsk)(k:Int)(w:World)(hx:Ζ lo hi w a b c d D)(hh:hi<=w)(hm:D.size<=1048576)(hk0:0<=k)(hk1:k<=1000000):
  Calls prog 15 #[ν a b c d,.int .i64 k] w λe w'=>e=.returned (.int .i64 (D.count k))/\β lo hi w w'/\Ζ lo hi w' a b c d (D.mark k):=by
 unfold Dsk.size at hm;obtain⟨l1,h1,l2,h2,l3,h3,l4,h4,o1,o2,o3,o4,r1,r2,r3,r4,x1,x2,x3,x4,x5,x6⟩:=hx;have⟨w0,hw0⟩:=xa_ w #[a,b,c,d] 31;have hb0:Below w w w0:=by rw[hw0];exact(B_ _ _).alloc (le_ _) _
 have K1:Q_ (Blk w (.cells #[a,b,c,d] 31) w0):=by rw[hw0];exact H_ (θ w _)
 have hsz:w+1<=w0.heap.size:=by rw[hw0];simp
 have O1:=H_ (o1.below hb0 (by omega));have O2:=H_ (o2.below hb0 (by omega));have O3:=H_ (o3.below hb0 (by omega));have O4:=H_ (o4.below hb0 (by omega));have HO:=H_ (β.of_below (lo:=lo) (hi:=hi) hb0 (le_ _));clear hb0 o1 o2 o3 o4
 go_enter func15,ntmps15
 go_wp2_with fail
 simp only[<-hw0];clear hw0;refine(zml l1 h1 _ D.first k _ O1.o (by omega) (by omega) (by omega)).mono ?_;rintro e w1 ⟨rfl,ho,q1⟩;replace O1:=H_ q1;replace HO:=H_ (HO.o.trans (ho.wide (by omega) (by omega)));replace K1:=H_ (K1.o.outside ho (by omega));replace O2:=H_ (O2.o.outside ho (by omega));replace O3:=H_ (O3.o.outside ho (by omega));replace O4:=H_ (O4.o.outside ho (by omega));have hs1:=ho.size;have c0:=K1.o.cell 1;clear ho q1;go_wp2_with fail
 clear c0;refine(zml l2 h2 _ D.goal _ _ O2.o (by omega) (by omega) (by omega)).mono ?_;rintro e w2 ⟨rfl,ho,q1⟩;replace O2:=H_ q1;replace HO:=H_ (HO.o.trans (ho.wide (by omega) (by omega)));replace K1:=H_ (K1.o.outside ho (by omega));replace O1:=H_ (O1.o.outside ho (by omega));replace O3:=H_ (O3.o.outside ho (by omega));replace O4:=H_ (O4.o.outside ho (by omega));have hs2:=ho.size;have c0:=K1.o.cell 2;clear ho q1;go_wp2_with fail
 clear c0;refine(ztu l3 h3 _ D.made _ _ O3.o (by omega) (by omega) (by omega)).mono ?_;rintro e w3 ⟨rfl,ho,q1⟩;replace O3:=H_ q1;replace HO:=H_ (HO.o.trans (ho.wide (by omega) (by omega)));replace K1:=H_ (K1.o.outside ho (by omega));replace O1:=H_ (O1.o.outside ho (by omega));replace O2:=H_ (O2.o.outside ho (by omega));replace O4:=H_ (O4.o.outside ho (by omega));have hs3:=ho.size;have c0:=K1.o.cell 3;clear ho q1;go_wp2_with fail
 clear c0;refine(zml l4 h4 _ D.now _ _ O4.o (by omega) (by omega) (by omega)).mono ?_;rintro e w4 ⟨rfl,ho,q1⟩;replace O4:=H_ q1;replace HO:=H_ (HO.o.trans (ho.wide (by omega) (by omega)));replace O1:=H_ (O1.o.outside ho (by omega));replace O2:=H_ (O2.o.outside ho (by omega));replace O3:=H_ (O3.o.outside ho (by omega));clear ho q1;go_wp2;go_ret;exact⟨rfl,HO.o,l1,h1,l2,h2,l3,h3,l4,h4,O1.o,O2.o,O3.o,O4.o,r1,r2,r3,r4,x1,x2,x3,x4,x5,x6⟩
theorem zop(lo hi:Nat)(a b c d:Value)(D:Dsk)(k:Int)(w:World)(hx:Η lo hi w a b c d (D.mark k))(hh:hi<=w)(hm:D.size<=1048576)(hk0:0<=k)(hk1:k<=1000000):
  Calls prog 17 #[ν a b c d,.int .i64 k] w λe w'=>e=.returned (.int .i64 (D.count k))/\Below w w w':=by
 unfold Dsk.size at hm;have⟨w0,hw0⟩:=xa_ w #[a,b,c,d] 31;have HB0:Q_ (Below w w w0):=by rw[hw0];exact H_ ((B_ _ _).alloc (le_ _) _)
 have K1:Q_ (Blk w (.cells #[a,b,c,d] 31) w0):=by rw[hw0];exact H_ (θ w _)
 have HX:=H_ (hx.below HB0.o hh);clear hx;have c1:=K1.o.cell 1;have c2:=K1.o.cell 2;have c3:=K1.o.cell 3
 go_enter func17,ntmps17
 go_wp2_with fail
 simp only[<-hw0];clear hw0;refine(zlo lo hi _ D.first.length k _ HX.o.first (by omega) (by omega) (by omega)).mono ?_;rintro e w1 ⟨rfl,rfl⟩;go_wp2_with fail
 refine(zlo lo hi _ D.goal.length _ _ HX.o.goal (by omega) (by omega) (by omega)).mono ?_;rintro e w1 ⟨rfl,rfl⟩;go_wp2_with fail
 refine(zzg lo hi _ D.made.length _ _ HX.o.made (by omega) (by omega) (by omega)).mono ?_;rintro e w1 ⟨rfl,rfl⟩;go_wp2_with fail
 refine(zlo lo hi _ D.now.length _ _ HX.o.now (by omega) (by omega) (by omega)).mono ?_;rintro e w1 ⟨rfl,rfl⟩;go_wp2;go_ret;exact⟨rfl,HB0.o⟩
section
variable {P:Program} {w:World}
theorem zg9 {ops:Array Oper} {o:Oper} {a:Act} {K:Act->World->Prop} {Q:Exit->Act->World->Prop} {E:Prop}(hgd:o.guard=none)(s x:Operand)(t:TypeId)
  (ho:o.op=.call { callee:=.builtin .append,args:=#[s,x],argTypes:=#[t,t] })
  (e:TypeId) (z:Value) (sz bytes:Nat) (ht:P.underlying t=some (.slice e)) (hinfo:(P.info? e).map (λi=>(i.zero,i.size,i.bytes))=some (some z,sz,bytes))
  (hzs:z.cells.size=sz) (hsz:0<sz) (hby:bytes<=64)
  {lo hi lo' hi' n:Nat} {v:Value} {xs:List Value} (hs:a.eval s=v) (hown:Own sz lo hi e w v n xs)
  {ad:Addr} {m c:Nat} {ys:List Value} (hx:a.eval x=.slice (some ad) m c) (hsl:Sl sz lo' hi' w (.slice (some ad) m c) m ys) (h1:∀ u∈ys,u.oneCell'=true)
  (hn:n+m<=1073741824) (hlo:lo<=w)
  (h:∀ v' w',Own sz lo w'.heap.size e w' v' (n+m) (xs++ys)->β lo hi w w'->K (a.put o.dst v') w') :
  if Region.wanted o (yielded ops a.tmps)=true then Oper.wp P o a w K Q else E:=by
 have hw:Region.wanted o (yielded ops a.tmps)=true:=by simp[Region.wanted,hgd]
 rw[l_ hw];obtain⟨i,hi0,hz,hsize,hb⟩:=bc_ hinfo;obtain⟨ao,c',e',hmc,hcm,hlen,hnone,hc⟩:=hsl;injection e' with e1 e2 e3;subst e1 e3;have hmx:(n+m)*bytes<=140737488355328:=x_ (a6_ hn hby) (by decide);refine wp_append_own w s x t ho lo e i z sz bytes ht hi0 hz hsize hb hzs hsz v n xs hs hown.1 ad m c ys hx hlen ?_ h1 (by unfold maxLen;omega) hmx hlo ?_
 ·intro j u hu
  have hj:=(ar_.1 hu).1;obtain⟨b,off,e1,_,_,_,e2⟩:=hc j hj;injection e1 with e1;subst e1;rw[aj_,e2,hu]
 ·intro v' w' h2 h3 _
  exact h v' w' (zf5 h2) (zbk h3 hown.lt)
end
section
variable {P:Program} {w:World}
theorem za8 {ops:Array Oper} {o:Oper} {a:Act} {K:Act->World->Prop} {Q:Exit->Act->World->Prop} {E:Prop}(hgd:o.guard=none)(s x:Operand)(t:TypeId)
  (ho:o.op=.call { callee:=.builtin .append,args:=#[s,x],argTypes:=#[t,t] })
  (e:TypeId) (z:Value) (sz bytes:Nat) (ht:P.underlying t=some (.slice e)) (hinfo:(P.info? e).map (λi=>(i.zero,i.size,i.bytes))=some (some z,sz,bytes))
  (hzs:z.cells.size=sz) (hsz:0<sz) (hby:bytes<=64)
  {lo hi lo' hi' n:Nat} {v:Value} {xs:List Value} (hs:a.eval s=v) (hown:Own sz lo hi e w v n xs)
  {ad:Addr} {m c:Nat} {ys:List Value} (hx:a.eval x=.slice (some ad) m c) (hsl:Sl sz lo' hi' w (.slice (some ad) m c) m ys) (h1:∀ u∈ys,u.oneCell'=true)
  (hn:n+m<=1073741824) (hlo:lo<=w)
  (h:∀ v' w',Own sz lo w'.heap.size e w' v' (n+m) (xs++ys)->β lo hi w w'->w.grownBy w' v.ownBlock->K (a.put o.dst v') w') :
  if Region.wanted o (yielded ops a.tmps)=true then Oper.wp P o a w K Q else E:=by
 have hw:Region.wanted o (yielded ops a.tmps)=true:=by simp[Region.wanted,hgd]
 rw[l_ hw];obtain⟨i,hi0,hz,hsize,hb⟩:=bc_ hinfo;obtain⟨ao,c',e',hmc,hcm,hlen,hnone,hc⟩:=hsl;injection e' with e1 e2 e3;subst e1 e3;have hmx:(n+m)*bytes<=140737488355328:=x_ (a6_ hn hby) (by decide);refine wp_append_own w s x t ho lo e i z sz bytes ht hi0 hz hsize hb hzs hsz v n xs hs hown.1 ad m c ys hx hlen ?_ h1 (by unfold maxLen;omega) hmx hlo ?_
 ·intro j u hu
  have hj:=(ar_.1 hu).1;obtain⟨b,off,e1,_,_,_,e2⟩:=hc j hj;injection e1 with e1;subst e1;rw[aj_,e2,hu]
 ·intro v' w' h2 h3 _
  exact h v' w' (zf5 h2) (zbk h3 hown.lt) h3
end
theorem Υ:(Tryz.prog.info? 22).map (λi=>(i.zero,i.size,i.bytes))=some (some (.slice none 0 0),1,24):=by kernel_rfl
end Go.Proofs.YtfnnhimopokpnaaGreatDoor
