/- Lemmas for this seat; no condition. -/
import Derived.Test.YtfnnhimopokpnaaGreatDoorHDAM
import Derived.Test.YtfnnhimopokpnaaGreatDoorHDSort
namespace Go.Proofs.YtfnnhimopokpnaaGreatDoor
open Go.RowKit Proofs.Tryz
set_option maxRecDepth 100000
set_option maxHeartbeats 0
set_option linter.all false
variable {s v u v' pv p:Value} {st st':List KT} {lo hi n cap g k q lo' hi' m:Nat} {e ys y:List Int} {w w0 wr w1 w' w2:World} {xs ss:List Value} {xss l yss:List (List Int)} {α:Type} {a' b' t:KT}
section
theorem zju:∀ {t:KT},t.ok 0=true->∀ s∈t.post,(0<=s/\s<=18)\/s=19\/s=20\/s=21
 | .leaf n,h,s,hs=>by
  simp only[KT.ok,j_,t_]at h;simp only[KT.post,k_]at hs;subst hs;exact .inl h
 | .star t,h,s,hs=>by
  simp only[KT.ok]at h;simp only[KT.post,E_,k_]at hs;rcases hs with hs|rfl
  ·exact zju h s hs
  ·simp
 | .bin p a b,h,s,hs=>by
  simp only[KT.ok,j_]at h;simp only[KT.post,E_,k_]at hs;rcases hs with(hs|hs)|rfl
  ·exact zju h.1 s hs
  ·exact zju h.2 s hs
  ·cases p<;>simp[KT.op]
def zat(st:List KT):List Int:=(st.map λt=>((endsK t:Nat):Int)).reverse
theorem zia(t:KT)(st:List KT):zat (t :: st)=zat st++[((endsK t:Nat):Int)]:=by simp[zat]
theorem zkr(st:List KT):(zat st).length=st.length:=by simp[zat]
theorem zy0 {s:Int}(h:zbm s st=some st')(hs:(0<=s/\s<=18)\/s=19\/s=20\/s=21):
  (16<=s/\s<=18/\zat st'=zat st++[0])\/(0<=s/\s<=15/\zat st'=zat st++[s]) \/
  (s=19/\∃ r x y:KT,∃ q:List KT,st=y :: x :: q/\zat st'=zat q++[((endsK x &&& endsK y:Nat):Int)]) \/
  (s=20/\∃ r x y:KT,∃ q:List KT,st=y :: x :: q/\zat st'=zat q++[((endsK x ||| endsK y:Nat):Int)]) \/
  (s=21/\∃ x:KT,∃ q:List KT,st=x :: q/\zat st'=zat q++[15]):=by
 rcases hs with⟨h0,h1⟩|rfl|rfl|rfl
 ·have ht:=zkz h1
  simp only[zbm,ht]at h;rw[m_ (by omega),m_ (by omega)]at h;injection h with h;subst h;rw[zia];by_cases h16:16<=s
  ·exact .inl ⟨h16,h1,by simp[endsK,h16]⟩
  ·exact .inr (.inl ⟨h0,by omega,by simp[endsK,h16];omega⟩)
 ·right;right;left
  refine⟨rfl,?_⟩;unfold zbm at h;rw[x_ (by rfl)]at h
  split at h
  ·injection h with h
   subst h;rename_i b a r;exact⟨a,a,b,r,rfl,by rw[zia];rfl⟩
  ·cases h
 ·right;right;right;left
  refine⟨rfl,?_⟩;unfold zbm at h;rw[x_ (by rfl)]at h
  split at h
  ·injection h with h
   subst h;rename_i b a r;exact⟨a,a,b,r,rfl,by rw[zia];rfl⟩
  ·cases h
 ·right;right;right;right
  refine⟨rfl,?_⟩;unfold zbm at h;rw[m_ (by decide),x_ (by rfl)]at h
  split at h
  ·injection h with h
   subst h;rename_i a r;exact⟨a,r,rfl,by rw[zia];rfl⟩
  ·cases h
theorem zeg:∀ {t:KT},t.ok 0=true->endsK t<16
 | .leaf n,h=>by
  simp only[KT.ok,j_,t_]at h;simp only[endsK]
  split<;>omega
 | .star t,_=>by simp[endsK]
 | .bin p a b,h=>by
  simp only[KT.ok,j_]at h;have ha:=zeg h.1;have hb:=zeg h.2;simp only[endsK];cases p
  ·exact c4_ do_ ha
  ·exact ce_ (n:=4) ha hb
theorem zhh {e:Nat}(h:Own 1 lo hi e w (.slice (q_ g 0) n cap) n xs)(j:Nat)(hj:j<xs.length):w.cell? (p_ g j)=some xs[j]:=by
 have:=h.1.cells (g:=g) rfl j xs[j] (l_ hj)
 rwa [a5_,U_]at this
def zhj(w0 wr:World)(e:List Int)(k:Nat)(v:Value)(st:List KT):Prop:=
 Own 1 w0 wr 3 wr v st.length (δ (zat st))/\Below w0 w0 wr/\zar (e.take k) []=some st/\st.length<=k/\oks 0 st
theorem zlc {a:Option Addr}(h:zhj w0 wr e k v st)(hr:zar (e.take (k+1)) []=some st'){s:Int}(hp:zbm s st=some st')(hs:0<=s/\s<=21)
  (ho:Own 1 w0 w1 3 w1 (.slice a n cap) n xs) (hx:xs=δ (zat st')) (hout:β w0 wr wr w1) (hl:st'.length<=st.length+1):zhj w0 w1 e (k+1) (.slice a n cap) st':=by
 have hn:n=st'.length:=by
  have h1:=ho.1.1;rw[hx,zc1,zkr]at h1;omega
 subst hn hx;exact⟨ho,ε h.2.1 hout (le_ _) (by have:=h.2.1.size;omega),hr,by have:=h.2.2.2.1;omega,zn2 hs.1 hs.2 h.2.2.2.2 hp⟩
theorem zsp {w5:World} {a:Option Addr} {q:List KT} {s z z':Int} {o:Obj}(h:zhj w0 wr e k v st)(hr:zar (e.take (k+1)) []=some st')(hp:zbm s st=some st')(hs:0<=s/\s<=21)(he:zat st'=zat q++[z])(hl:st'.length<=st.length+1)
  (ho:Own 1 w0 w5 3 w5 (.slice a n cap) n (δ (zat q)++δ [z'])) (hz:z'=z) (hout:β w0 wr (wr.alloc o).drew w5):zhj w0 w5 e (k+1) (.slice a n cap) st':=by
 subst hz;have hb:Below wr wr (wr.alloc o).drew:=z_ (ζ _ _);exact zlc h hr hp hs ho (by rw[he,zaa]) ((β.of_below hb (le_ _)).trans hout) hl
theorem zm9(lo hi:Nat)(v:Value)(t:KT)(w:World)(hx:SlI lo hi w v t.post)(hh:hi<=w)(hm:t.size<=1000000)(ht:t.ok 0=true):
  c_ 149 #[v] w ((endsK t:Nat):Int):=by
 have hl:=t.post_length;have hrun:=zem 0 t ht [];have hmem:=λs h=>zju ht s h
 have⟨e,he⟩:=ex_ t.post;rw[<-he]at hx hl hrun hmem;obtain⟨a,cap,rfl,hcap,hcm⟩:=π hx;have HX:=H_ hx;have HT:=H_ hrun;have HM:=H_ hmem;have HL:=H_ hl;clear hx hrun hmem he hl;unfold maxLen at hcm;have hl2:e.length<=1000000:=by have:=HL.o;omega
 go_enter func149,ntmps149
 go_wp2;go_loopw [3,9] (λv i wr=>∃ (k:Nat) (st:List KT),k<=e.length/\i=.int .i64 k/\Q_ (zhj w wr e k v st)) (λ_ i _=>e.length-(intOf i).toNat)
 case atStart=>exact⟨0,[],by omega,rfl,H_ ⟨Ω _ _ _ _ _,B_ _ _,by simp[zar],le_ _,λt ht=>by cases ht⟩⟩
 case round=>
  obtain⟨k,st,hk,rfl,HR⟩:=hrel;by_cases hlt:k<e.length
  ·obtain⟨st',hpush,hrun'⟩:=zlq HT.o k hlt HR.o.2.2.1
   obtain⟨b,off,rfl,_,_,hbs,hcell⟩:=zc8 (HX.o.below HR.o.2.1 hh) k hlt;have hsz:=HR.o.2.1.size;have hn:=HR.o.2.2.2.1;have hpl:=(zl6 hpush).2;have⟨s,hs⟩:=ex_ (e[k]);rw[<-hs]at hpush hcell hpl;have htb:=zev s;have hsl:st'.length<=st.length+1:=by omega
   have hsm:=HM.o s (by rw[hs];exact u_ _);have hgr:0<=s/\s<=21:=by omega
   have hcase:=zy0 hpush hsm;have HPU:=H_ hpush;have HRN:=H_ hrun';clear hpush hrun' hs hsm hpl htb;rcases hcase with⟨h1,h2,he'⟩|⟨h1,h2,he'⟩|⟨rfl,hq⟩|⟨rfl,hq⟩|⟨rfl,hq⟩
   ·(have HIS:=H_ (show zal s=true by simp[zal,h1,h2]));(obtain⟨sa,sc,rfl⟩:=η HR.o.1;have hown:=HR.o.1;go_wp2_with (first | (go_at_call 176;refine(zb3 s _).mono ?_;rintro e_ _ ⟨rfl,rfl⟩;rw[HIS.o]) | (at_builtin;refine zap _ rfl _ _ 22 rfl 3 (0:Int) 1 8 underlying22 ω rfl (by decide) (by decide) rfl hown 1 (δ [0]) rfl rfl (Ι _) rfl ?c1 ?c2 ?_)));case c1=>omega
    case c2=>omega
    intro v' w5 hown5 hout5 _;obtain⟨a',cap',rfl⟩:=η hown5;have H5:=H_ (zlc HR.o HRN.o HPU.o hgr hown5 (by rw[he',zaa]) hout5 (by omega));clear hown hown5 hout5;go_wp2;go_roundw
    (case rel=>exact⟨k+1,st',by omega,by go_num,H5⟩);case measure=>simp[intOf];omega
   ·(have HIS:=H_ (show zal s=false by simp[zal];omega));(obtain⟨sa,sc,rfl⟩:=η HR.o.1;have hown:=HR.o.1;have n19:(s==19)=false:=by simp;omega);(have n20:(s==20)=false:=by simp;omega);(have n21:(s==21)=false:=by simp;omega);go_wp2_with (first | (go_at_call 176;refine(zb3 s _).mono ?_;rintro e_ _ ⟨rfl,rfl⟩;rw[HIS.o]) | (at_builtin;refine zap _ rfl _ _ 22 rfl 3 (0:Int) 1 8 underlying22 ω rfl (by decide) (by decide) rfl hown 1 (δ [s]) rfl rfl (Ι _) rfl ?c1 ?c2 ?_))
    case c1=>omega
    case c2=>omega
    intro v' w5 hown5 hout5 _;obtain⟨a',cap',rfl⟩:=η hown5;have H5:=H_ (zlc HR.o HRN.o HPU.o hgr hown5 (by rw[he',zaa]) hout5 (by omega));clear hown hown5 hout5;go_wp2;go_roundw
    (case rel=>exact⟨k+1,st',by omega,by go_num,H5⟩);case measure=>simp[intOf];omega
   ·(have HIS:=H_ (show zal 19=false by decide));(obtain⟨r_,x,y,q,rfl,he'⟩:=hq;have hex:=zeg (HR.o.2.2.2.2 x (by simp));have hey:=zeg (HR.o.2.2.2.2 y (by simp));have hown:=HR.o.1;have HSL:=H_ hsl;simp only[I_]at hown hn hsl;obtain⟨sa,sc,rfl,hc1,hc2,_,hc3⟩:=θ hown;obtain⟨g,rfl,hg1,hg2⟩:=hc3 (by omega);unfold maxLen at hc2;have hes:zat (y :: x :: q)=zat q++[((endsK x:Nat):Int),((endsK y:Nat):Int)]:=by simp[zat]);rw[hes]at hown;have hql:=zkr q
    have r1:wr.drew.cell? (p_ g q.length)=some (.int .i64 ((endsK x:Nat):Int)):=by
     (have h:=zhh hown q.length (by rw[zc1];simp;omega));simpa [δ,hql] using h
    have r2:wr.drew.cell? (p_ g (q.length+1))=some (.int .i64 ((endsK y:Nat):Int)):=by
     (have h:=zhh hown (q.length+1) (by rw[zc1];simp;omega));simpa [δ,hql] using h
    (have HF:=H_ (zja (m:=q.length) (ys:=δ (zat q)) (ks:=δ [((endsK x:Nat):Int),((endsK y:Nat):Int)]) (by rw[<-zaa];exact hown) (by rw[zc1,hql]) (by simp));have hbl:Below wr wr (wr.alloc (.cells #[.int .i64 (bits .and .i64 ((endsK x:Nat):Int) ((endsK y:Nat):Int))] 3)).drew:=z_ (ζ _ _);have hblz:=hbl.size;have HFW:=H_ (HF.o.below hbl (by omega));have HL:Q_ (Sl 1 wr (wr+1) (wr.alloc (.cells #[.int .i64 (bits .and .i64 ((endsK x:Nat):Int) ((endsK y:Nat):Int))] 3)).drew (.slice (q_ wr 0) 1 1) 1 (δ [bits .and .i64 ((endsK x:Nat):Int) ((endsK y:Nat):Int)])):=H_ ((ς 1 3 wr (δ [_]) 1 (by omega) rfl).sl.below (z_ (B_ (wr+1) _)) (le_ _));have HBT:=H_ (zrc (endsK x) (endsK y) (by omega) (by omega));have hdz:wr.drew.heap.size=wr.heap.size:=rfl;have⟨hqb,hqc⟩:q.length<=1000000/\(q.length:Int)<=sc:=by omega);(have j8:IntKind.i64.wrap (q.length:Int)=q.length:=zd1 _ (by omega);have j9:IntKind.i64.wrap ((q.length:Int)+1)=(q.length:Int)+1:=by simpa using zd1 (q.length+1) (by omega));(have⟨j7,j6,j5,j4,j3,i1⟩:(0:Int)<=q.length/\(q.length:Int)<(q.length:Int)+1+1/\(q.length:Int)+1<(q.length:Int)+1+1/\(0:Int)<=(q.length:Int)+1/\((q.length:Int)+1).toNat=q.length+1/\((q.length:Int)+1+1)-2=q.length:=by omega);(have⟨i2,i3,i4⟩:((q.length:Int)+1+1)-1=q.length+1/\(((q.length:Int)+1+1)-2).toNat=q.length/\(((q.length:Int)+1+1)-1).toNat=q.length+1:=by omega);clear hown hc3 hes;go_upto_region 10 with(go_at_call 176;refine(zb3 _ _).mono ?_;rintro e_ _ ⟨rfl,rfl⟩;rw[HIS.o])
    go_region_law (first
     | (refine zhv (by rfl) _ _ 22 (by rfl) 3 (0:Int) 1 8 underlying22 ω (by rfl) (by decide) (by decide) (by rfl) HFW.o (by rfl) HL.o (by intro u hu;simp[δ] at hu;subst hu;rfl) (by omega) (by omega) ?_;intro v5 w5 ho5 hout5;obtain⟨a5,c5,rfl⟩:=η ho5;(have H5:=H_ (zsp HR.o HRN.o HPU.o hgr he' HSL.o ho5 HBT.o hout5));clear ho5 hout5))
    all_goals (
     go_wp2;go_roundw
     (case rel=>exact⟨k+1,st',by omega,by go_num,H5⟩);case measure=>simp[intOf];omega)
   ·(have HIS:=H_ (show zal 20=false by decide));(obtain⟨r_,x,y,q,rfl,he'⟩:=hq;have hex:=zeg (HR.o.2.2.2.2 x (by simp));have hey:=zeg (HR.o.2.2.2.2 y (by simp));have hown:=HR.o.1;have HSL:=H_ hsl;simp only[I_]at hown hn hsl;obtain⟨sa,sc,rfl,hc1,hc2,_,hc3⟩:=θ hown;obtain⟨g,rfl,hg1,hg2⟩:=hc3 (by omega);unfold maxLen at hc2;have hes:zat (y :: x :: q)=zat q++[((endsK x:Nat):Int),((endsK y:Nat):Int)]:=by simp[zat]);rw[hes]at hown;have hql:=zkr q
    have r1:wr.drew.cell? (p_ g q.length)=some (.int .i64 ((endsK x:Nat):Int)):=by
     (have h:=zhh hown q.length (by rw[zc1];simp;omega));simpa [δ,hql] using h
    have r2:wr.drew.cell? (p_ g (q.length+1))=some (.int .i64 ((endsK y:Nat):Int)):=by
     (have h:=zhh hown (q.length+1) (by rw[zc1];simp;omega));simpa [δ,hql] using h
    (have HF:=H_ (zja (m:=q.length) (ys:=δ (zat q)) (ks:=δ [((endsK x:Nat):Int),((endsK y:Nat):Int)]) (by rw[<-zaa];exact hown) (by rw[zc1,hql]) (by simp));have hbl:Below wr wr (wr.alloc (.cells #[.int .i64 (bits .or .i64 ((endsK x:Nat):Int) ((endsK y:Nat):Int))] 3)).drew:=z_ (ζ _ _);have hblz:=hbl.size;have HFW:=H_ (HF.o.below hbl (by omega));have HL:Q_ (Sl 1 wr (wr+1) (wr.alloc (.cells #[.int .i64 (bits .or .i64 ((endsK x:Nat):Int) ((endsK y:Nat):Int))] 3)).drew (.slice (q_ wr 0) 1 1) 1 (δ [bits .or .i64 ((endsK x:Nat):Int) ((endsK y:Nat):Int)])):=H_ ((ς 1 3 wr (δ [_]) 1 (by omega) rfl).sl.below (z_ (B_ (wr+1) _)) (le_ _));have HBT:=H_ (zko (endsK x) (endsK y) (by omega) (by omega));have hdz:wr.drew.heap.size=wr.heap.size:=rfl;have⟨hqb,hqc⟩:q.length<=1000000/\(q.length:Int)<=sc:=by omega);(have j8:IntKind.i64.wrap (q.length:Int)=q.length:=zd1 _ (by omega);have j9:IntKind.i64.wrap ((q.length:Int)+1)=(q.length:Int)+1:=by simpa using zd1 (q.length+1) (by omega));(have⟨j7,j6,j5,j4,j3,i1⟩:(0:Int)<=q.length/\(q.length:Int)<(q.length:Int)+1+1/\(q.length:Int)+1<(q.length:Int)+1+1/\(0:Int)<=(q.length:Int)+1/\((q.length:Int)+1).toNat=q.length+1/\((q.length:Int)+1+1)-2=q.length:=by omega);(have⟨i2,i3,i4⟩:((q.length:Int)+1+1)-1=q.length+1/\(((q.length:Int)+1+1)-2).toNat=q.length/\(((q.length:Int)+1+1)-1).toNat=q.length+1:=by omega);clear hown hc3 hes;go_upto_region 12 with(go_at_call 176;refine(zb3 _ _).mono ?_;rintro e_ _ ⟨rfl,rfl⟩;rw[HIS.o])
    go_region_law (first
     | (refine zhv (by rfl) _ _ 22 (by rfl) 3 (0:Int) 1 8 underlying22 ω (by rfl) (by decide) (by decide) (by rfl) HFW.o (by rfl) HL.o (by intro u hu;simp[δ] at hu;subst hu;rfl) (by omega) (by omega) ?_;intro v5 w5 ho5 hout5;obtain⟨a5,c5,rfl⟩:=η ho5;(have H5:=H_ (zsp HR.o HRN.o HPU.o hgr he' HSL.o ho5 HBT.o hout5));clear ho5 hout5))
    all_goals (
     go_wp2;go_roundw
     (case rel=>exact⟨k+1,st',by omega,by go_num,H5⟩);case measure=>simp[intOf];omega)
   ·(have HIS:=H_ (show zal 21=false by decide));(obtain⟨x,q,rfl,he'⟩:=hq;have hown:=HR.o.1;simp only[I_]at hown hn hsl;obtain⟨sa,sc,rfl,hc1,hc2,_,hc3⟩:=θ hown;obtain⟨g,rfl,hg1,hg2⟩:=hc3 (by omega);unfold maxLen at hc2;rw[zia]at hown;have hql:=zkr q)
    have r1:wr.cell? (p_ g q.length)=some (.int .i64 ((endsK x:Nat):Int)):=by
     (have h:=zhh hown q.length (by rw[zc1];simp;omega));simpa [δ,hql] using h
    (have r2:=dd_ hown.1 q.length;have hqb:q.length<=1000000:=by omega);(have j8:IntKind.i64.wrap (q.length:Int)=q.length:=zd1 _ (by omega);have⟨i1,i2⟩:((q.length:Int)+1)-1=q.length/\(((q.length:Int)+1)-1).toNat=q.length:=by omega);(have hst:=(dn_ hown.1 q.length (15:Int)).1)
    have H5:Q_ (zhj w (wr.setCell (p_ g q.length) (15:Int)) e (k+1) (.slice (q_ g 0) (q.length+1) sc) st'):=by
     refine H_ (zlc HR.o HRN.o HPU.o hgr (xs:=(δ (zat q++[((endsK x:Nat):Int)])).set q.length (15:Int)) ⟨hst,λk hk=>?_⟩ ?_ ((β.refl _ _ _).setCell (p:=p_ g q.length) hg1 hg2 _) (by simp at hsl ⊢;omega))
     ·(have:=hown.2 k hk);(have h2:(wr.setCell (p_ g q.length) (15:Int)).heap.size=wr.heap.size:=by simp[World.setCell]);omega
     ·rw[he',zaa,zaa,di_ _ _ (by rw[zc1];omega)]
      simp[δ,hql]
    clear hown hst hc3;go_wp2_with (go_at_call 176;refine(zb3 _ _).mono ?_;rintro e_ _ ⟨rfl,rfl⟩;rw[HIS.o])
    go_roundw
    (case rel=>exact⟨k+1,st',by omega,by go_num,H5⟩);case measure=>simp[intOf];omega
  ·obtain rfl:k=e.length:=by omega
   have hr:=HR.o.2.2.1;rw[Y_,HT.o]at hr;injection hr with hr;subst hr;have hown:=HR.o.1;obtain⟨sa,sc,rfl,hc1,hc2,_,hc3⟩:=θ hown;obtain⟨g,rfl,_,_⟩:=hc3 (by simp);have r1:wr.cell? (p_ g 0)=some (.int .i64 ((endsK t:Nat):Int)):=zhh hown 0 (by simp[δ,zat]);have HB:=H_ HR.o.2.1;clear hown hc3;go_wp2;go_ret;exact⟨rfl,HB.o⟩
theorem zps(lo hi lo' hi':Nat)(va vb:Value)(xs ys:List Int)(w:World)(hx:SlI lo hi w va xs)(hy:SlI lo' hi' w vb ys)(hh:hi<=w)(hh':hi'<=w)(hm:xs.length+ys.length<=1000000):
  Calls prog 233 #[va,vb] w (ι λv w'=>Below w w w'/\γ w w' 3 w' v (behV xs ys)):=by
 have HX:=H_ hx;have HY:=H_ hy;obtain⟨a,cap,rfl,hcap,hcm,hc⟩:=hx.open;obtain⟨a2,cap2,rfl,hcap2,hcm2⟩:=π hy;clear hx hy;by_cases h15:xs=[15]
 ·subst h15
  obtain⟨b,off,rfl,_,_,_,h⟩:=hc 0 (by simp);have h0:w.cell? (p_ b off)=some (.int .i64 15):=by simpa using h
  clear h hc
  go_enter func233,ntmps233
  go_wp2_with fail
  refine(zdo _ _ _ ys _ HY.o (by omega)).mono ?_;rintro e w1 ⟨v1,rfl,hb,ho⟩;have HQ:=H_ (a_ hb ho);obtain⟨oa,oc,rfl⟩:=η ho;clear hb ho;go_wp2;go_ret;exact ι.mk _ rfl ⟨HQ.o.1,by rw[show behV [15] ys=ys from x_ rfl];exact HQ.o.2⟩
 ·have HV:=H_ (show behV xs ys=xs++ys++[19] from m_ h15)
  have hcase:(∃ (x:Int) (b off:Nat),xs=[x]/\x≠15/\a=some ⟨b,off,none⟩/\w.cell? (p_ b off)=some (.int .i64 x))\/xs.length≠1:=by
   by_cases hl:xs.length=1
   ·left
    obtain⟨x,rfl⟩:∃ x,xs=[x]:=ca_.1 hl;obtain⟨b,off,e,_,_,_,h⟩:=hc 0 (by simp);exact⟨x,b,off,rfl,λe=>h15 (by rw[e]),e,by simpa using h⟩
   ·exact .inr hl
  clear hc h15;rcases hcase with⟨x,b,off,rfl,hne,rfl,h0⟩|hl
  ·have hx5:(x==15)=false:=by simpa using hne
   have HX1:Q_ (SlI lo hi w (.slice (q_ b off) 1 cap) [x]):=HX
   go_enter func233,ntmps233
   go_wp2_with fail
   refine(zdo _ _ _ [x] _ HX1.o (by omega)).mono ?_;rintro e w1 ⟨v1,rfl,hb,ho⟩;have hs1:=hb.size;have HB:=H_ hb;have HO:=H_ ho;obtain⟨oa,oc,rfl⟩:=η ho;replace HY:=H_ (HY.o.below hb hh');clear hb ho;go_wp2_with (at_builtin;refine Μ rfl _ _ 22 rfl 3 (0:Int) 1 8 underlying22 ω rfl (by decide) (by decide) rfl HO.o rfl HY.o (Ι _) ?c1 ?c2 ?_)
   case c1=>omega
   case c2=>omega
   intro v2 w2 ho2 _ hout2 _;have hs2:=hout2.size;have O2:=H_ ho2;have HB2:=H_ (ε HB.o hout2 (le_ _) HB.o.size);clear ho2 hout2 HY HO HB;go_wp2_with (at_builtin;refine zap w2 rfl _ _ 22 rfl 3 (0:Int) 1 8 underlying22 ω rfl (by decide) (by decide) rfl O2.o 1 (δ [19]) rfl rfl (Ι _) rfl ?c1 ?c2 ?_)
   case c1=>omega
   case c2=>omega
   intro v3 w3 ho3 hout3 _;have O3:=H_ ho3;have HB3:=H_ (ε HB2.o hout3 (le_ _) HB2.o.size);clear ho3 hout3 O2 HB2;go_wp2;go_ret;refine ι.mk _ rfl ⟨HB3.o,?_⟩;have h:=O3.o;rw[HV.o];have e1:([x]++ys++[(19:Int)]).length=1+ys.length+1:=by simp;omega
   have e2:δ ([x]++ys++[(19:Int)])=δ [x]++δ ys++δ [19]:=by simp[δ]
   unfold γ;rw[e1,e2]
   first | exact h | (rw[Z_];exact h)
  ·have hl1:((xs.length:Int)==1)=false:=by simp;omega
   have hl2:¬(xs.length:Int)=1:=by omega
   go_enter func233,ntmps233
   go_wp2_with fail
   refine(zdo _ _ _ xs _ HX.o (by omega)).mono ?_;rintro e w1 ⟨v1,rfl,hb,ho⟩;have hs1:=hb.size;have HB:=H_ hb;have HO:=H_ ho;obtain⟨oa,oc,rfl⟩:=η ho;replace HY:=H_ (HY.o.below hb hh');clear hb ho;go_wp2_with (at_builtin;refine Μ rfl _ _ 22 rfl 3 (0:Int) 1 8 underlying22 ω rfl (by decide) (by decide) rfl HO.o rfl HY.o (Ι _) ?c1 ?c2 ?_)
   case c1=>omega
   case c2=>omega
   intro v2 w2 ho2 _ hout2 _;have hs2:=hout2.size;have O2:=H_ ho2;have HB2:=H_ (ε HB.o hout2 (le_ _) HB.o.size);clear ho2 hout2 HY HO HB;go_wp2_with (at_builtin;refine zap w2 rfl _ _ 22 rfl 3 (0:Int) 1 8 underlying22 ω rfl (by decide) (by decide) rfl O2.o 1 (δ [19]) rfl rfl (Ι _) rfl ?c1 ?c2 ?_)
   case c1=>omega
   case c2=>omega
   intro v3 w3 ho3 hout3 _;have O3:=H_ ho3;have HB3:=H_ (ε HB2.o hout3 (le_ _) HB2.o.size);clear ho3 hout3 O2 HB2;go_wp2;go_ret;refine ι.mk _ rfl ⟨HB3.o,?_⟩;have h:=O3.o;rw[HV.o];have e1:(xs++ys++[(19:Int)]).length=xs.length+ys.length+1:=by simp;omega
   have e2:δ (xs++ys++[(19:Int)])=δ xs++δ ys++δ [19]:=by simp[δ]
   unfold γ;rw[e1,e2]
   first | exact h | (rw[Z_];exact h)
def zcv(x y:Int):Int:=if x<y then -1 else if y<x then 1 else 0
def zcu:List Int->List Int->Int
 | [],[]=>0
 | [],_ :: _=>-1
 | _ :: _,[]=>1
 | x :: xs,y :: ys=>if zcv x y=0 then zcu xs ys else zcv x y
theorem zz8(x y:Int):-1<=zcv x y/\zcv x y<=1:=by unfold zcv;split<;>(try split)<;>omega
theorem zil:∀ (xs ys:List Int),decide (zcu xs ys<0)=ltL xs ys
 | [],[]=>rfl
 | [],_ :: _=>rfl
 | _ :: _,[]=>rfl
 | x :: xs,y :: ys=>by
  have ih:=zil xs ys;simp only[zcu,ltL,zcv];by_cases h1:x<y
  ·simp[h1]
  ·by_cases h2:y<x
   ·simp[h1,h2]
   ·simp[h1,h2,ih]
theorem z2h {xs:List Int}(h1:k<xs.length)(h2:ys.length<=k):zcu (xs.drop k) (ys.drop k)=1:=by
 rw[y_ h1,cb_ h2];rfl
theorem zvq {xs:List Int}(h1:xs.length<=k):zcu (xs.drop k) (ys.drop k)=if k<ys.length then -1 else 0:=by
 rw[cb_ h1]
 split
 ·rename_i h
  rw[y_ h];rfl
 ·rw[cb_ (by omega)];rfl
theorem z12 {xs:List Int}(h1:k<xs.length)(h2:k<ys.length):zcu (xs.drop k) (ys.drop k)=if zcv xs[k] ys[k]=0 then zcu (xs.drop (k+1)) (ys.drop (k+1)) else zcv xs[k] ys[k]:=by
 rw[y_ h1,y_ h2];rfl
theorem zls(x:Int)(w:World):Calls prog 272 #[.int .i64 x] w λe w'=>e=.returned false/\w=w':=by
 have hx:(x !=x)=false:=by simp
 go_enter func272,ntmps272
 go_wp2;go_ret;exact⟨rfl,rfl⟩
theorem zrm(x y:Int)(w:World):Calls prog 255 #[.int .i64 x,.int .i64 y] w λe w'=>e=.returned (.int .i64 (zcv x y))/\w=w':=by
 by_cases h1:x<y
 ·have HC:=H_ (show zcv x y=-1 by simp[zcv,h1])
  go_enter func255,ntmps255
  go_wp2_with (go_at_call 272;refine(zls _ _).mono ?_;rintro e w' ⟨rfl,rfl⟩)
  go_ret;exact⟨by rw[HC.o];rfl,rfl⟩
 ·by_cases h2:y<x
  ·have HC:=H_ (show zcv x y=1 by simp[zcv,h1,h2])
   go_enter func255,ntmps255
   go_wp2_with (go_at_call 272;refine(zls _ _).mono ?_;rintro e w' ⟨rfl,rfl⟩)
   go_ret;exact⟨by rw[HC.o];rfl,rfl⟩
  ·have HC:=H_ (show zcv x y=0 by simp[zcv,h1,h2])
   go_enter func255,ntmps255
   go_wp2_with (go_at_call 272;refine(zls _ _).mono ?_;rintro e w' ⟨rfl,rfl⟩)
   go_ret;exact⟨by rw[HC.o];rfl,rfl⟩
theorem zv5(lo hi lo' hi':Nat)(va vb:Value)(xs ys:List Int)(w:World)(hx:SlI lo hi w va xs)(hy:SlI lo' hi' w vb ys):
  Calls prog 247 #[va,vb] w λe w'=>e=.returned (.int .i64 (zcu xs ys))/\w=w':=by
 have HX:=H_ hx;have HY:=H_ hy;obtain⟨a,cap,rfl,hcap,hcm⟩:=π hx;obtain⟨a2,cap2,rfl,hcap2,hcm2⟩:=π hy;unfold maxLen at hcm hcm2;clear hx hy
 go_enter func247,ntmps247
 go_wp2;go_loopw [11] (λi wr=>∃ k:Nat,k<=xs.length/\k<=ys.length/\i=.int .i64 k/\w=wr/\Q_ (zcu (xs.drop k) (ys.drop k)=zcu xs ys)) (λi _=>xs.length-(intOf i).toNat)
 case atStart=>exact⟨0,by omega,by omega,rfl,rfl,H_ rfl⟩
 case round=>
  obtain⟨k,hk,hk2,rfl,rfl,HQ⟩:=hrel;by_cases hlt:k<xs.length
  ·obtain⟨b,off,rfl,_,_,_,hc1⟩:=zc8 HX.o k hlt
   by_cases hlt2:k<ys.length
   ·(obtain⟨b2,off2,rfl,_,_,_,hc2⟩:=zc8 HY.o k hlt2);(have hge:¬(ys.length:Int)<=k:=by omega);have hst:=z12 hlt hlt2;have⟨x,hx⟩:=ex_ (xs[k]);have⟨y,hy⟩:=ex_ (ys[k]);rw[<-hx]at hc1 hst;rw[<-hy]at hc2 hst;have hbd:=zz8 x y;obtain⟨z,hz⟩:∃ z,zcv x y=z:=⟨_,rfl⟩;rw[hz]at hst hbd;have HZ:=H_ hz;by_cases h0:z=0
    ·(have HN:=H_ (show zcu (xs.drop (k+1)) (ys.drop (k+1))=zcu xs ys by rw[<-HQ.o,hst,x_ h0]));clear hst hx hy hz HQ;subst h0;go_wp2_with (go_at_call 255;refine(zrm _ _ _).mono ?_;rintro e_ _ ⟨rfl,rfl⟩;rw[HZ.o])
     go_roundw
     (case rel=>exact⟨k+1,by omega,by omega,by go_num,by first | trivial | rfl,HN⟩);case measure=>simp[intOf];omega
    ·(have HN:=H_ (show z=zcu xs ys by rw[<-HQ.o,hst,m_ h0]));(have hzb:(z==0)=false:=by simpa using h0);clear hst hx hy hz HQ;go_wp2_with (go_at_call 255;refine(zrm _ _ _).mono ?_;rintro e_ _ ⟨rfl,rfl⟩;rw[HZ.o])
     go_ret;exact⟨by rw[<-HN.o];rfl,rfl⟩
   ·(have hge:(ys.length:Int)<=k:=by omega);have HN:=H_ (show (1:Int)=zcu xs ys by rw[<-HQ.o,z2h hlt (by omega)]);clear HQ;go_wp2;go_ret;exact⟨by rw[<-HN.o];rfl,rfl⟩
  ·obtain rfl:k=xs.length:=by omega
   have he:=zvq (xs:=xs) (ys:=ys) (k:=xs.length) (le_ _);rw[HQ.o]at he;by_cases hl:xs.length<ys.length
   ·rw[x_ hl]at he
    (have HN:=H_ he;have hl2:(xs.length:Int)<ys.length:=by omega);clear he HQ;go_wp2;go_ret;exact⟨by rw[<-HN.o];rfl,rfl⟩
   ·rw[m_ hl]at he
    (have HN:=H_ he;have hl2:¬(xs.length:Int)<ys.length:=by omega);clear he HQ;go_wp2;go_ret;exact⟨by rw[<-HN.o];rfl,rfl⟩
def LLs(lo hi:Nat)(w:World)(v:Value)(ss:List Value)(xss:List (List Int)):Prop:=
 Own 1 lo hi 22 w v ss.length ss/\ss.length=xss.length/\∀ i (h1:i<ss.length) (h2:i<xss.length),γ lo hi 3 w ss[i] xss[i]
theorem LLs.below {B:Nat}(h:LLs lo hi w v ss xss)(hb:Below B w w')(hB:hi<=B):LLs lo hi w' v ss xss:=
 ⟨h.1.below hb hB,h.2.1,λi h1 h2=>(h.2.2 i h1 h2).below hb hB⟩
theorem LLs.outside(h:LLs lo hi w v ss xss)(hb:β lo' hi' w w')(hd:hi<=lo'\/hi'<=lo):LLs lo hi w' v ss xss:=
 ⟨h.1.outside hb hd,h.2.1,λi h1 h2=>(h.2.2 i h1 h2).outside hb hd⟩
theorem LLs.lower(h:LLs lo hi w v ss xss)(hl:lo'<=lo)(hh:hi<=hi'):LLs lo' hi' w v ss xss:=
 ⟨h.1.wide2 hl hh,h.2.1,λi h1 h2=>(h.2.2 i h1 h2).lower hl hh⟩
theorem LLs.nil(lo hi:Nat)(w:World):LLs lo hi w () [] []:=⟨Ω _ _ _ _ _,rfl,λi h=>by simp at h⟩
def zfu:=@LLs.nil
theorem zmt {cur:Array Value}(hcur:w.heap[g]?=some (.cells cur 22 (0,0)))(hu:γ lo hi 3 w u ys)(j:Nat)(x:Value):γ lo hi 3 (w.setCell (p_ g j) x) u ys:=by
 rcases hu.1.2 with⟨h1,h0⟩|⟨g',cap',cur',e1,hb,hg',hrest⟩
 ·exact⟨⟨hu.1.1,.inl ⟨h1,h0⟩⟩,hu.2⟩
 ·refine⟨⟨hu.1.1,.inr ⟨g',cap',cur',e1,hb,?_,hrest⟩⟩,hu.2⟩
  rw[heap_setCell_other w (p_ g j) g' _ (λe=>by
   have e:g'=g:=by simpa using e
   subst e;rw[hcur]at hg';injection hg' with hg';injection hg' with _ h2 _;exact absurd h2 (by decide))]
  exact hg'
theorem LLs.put(h:LLs lo hi w (.slice (q_ g 0) n cap) ss xss)(hn:n=ss.length)(hs:γ lo hi 3 w s ys)(j:Nat):
  LLs lo hi (w.setCell (p_ g j) s) (.slice (q_ g 0) n cap) (ss.set j s) (xss.set j ys)/\β lo hi w (w.setCell (p_ g j) s):=by
 subst hn;obtain⟨_,hg1,hg2,cur,hcur⟩:=Own.block (g:=0) h.1;simp only at hg1 hg2 hcur;refine⟨⟨?_,by simpa using h.2.1,λi h1 h2=>?_⟩,(β.refl _ _ _).setCell (p:=p_ g j) hg1 hg2 _⟩
 ·rw[bw_]
  exact⟨(dn_ h.1.1 j s).1,h.1.2⟩
 ·rw[bw_]at h1 h2
  rw[d9_,d9_]
  split
  ·exact zmt hcur hs j s
  ·exact zmt hcur (h.2.2 i h1 h2) j s
theorem LLs.front(h:LLs lo hi w (.slice (q_ g 0) n cap) ss xss)(hn:n=ss.length)(hm:m<=ss.length):LLs lo hi w (.slice (q_ g 0) m cap) (ss.take m) (xss.take m):=by
 subst hn;have hl:(ss.take m).length=m:=by simp;omega
 refine⟨?_,by have:=h.2.1;simp;omega,λi h1 h2=>?_⟩
 ·rw[hl]
  exact zja (ys:=ss.take m) (ks:=ss.drop m) (by rw[a1_];exact h.1) hl (by simp)
 ·rw[b1_,b1_]
  exact h.2.2 i (by simp at h1;omega) (by simp at h2;omega)
theorem LLs.cell(h:LLs lo hi w (.slice (q_ g 0) n cap) ss xss)(j:Nat)(hj:j<ss.length):w.cell? (p_ g j)=some ss[j]:=by
 have:=h.1.1.cells (g:=g) rfl j ss[j] (l_ hj)
 rwa [a5_,U_]at this
theorem LLs.sl(h:LLs lo hi w v ss xss):zbi lo hi w v xss:=by
 obtain⟨a,cap,e,e1,e2,_,_,hc⟩:=h.1.sl;have hl:=h.2.1;refine⟨a,cap,by rw[<-hl];exact e,by omega,e2,λi hi=>?_⟩;obtain⟨b,off,f1,f2,f3,f4,f5⟩:=hc i (by omega);exact⟨b,off,ss[i],f1,f2,f3,f4,by rw[f5,l_],(h.2.2 i (by omega) hi).sl⟩
def zbl(p:List Int):List (List Int)->List (List Int)
 | []=>[]
 | x :: r=>if x=p then zbl x r else x :: zbl x r
def zep:List (List Int)->List (List Int)
 | []=>[]
 | x :: r=>x :: zbl x r
theorem zoo{y:List Int}:∀ (l:List (List Int)) (p:List Int),y∈p :: zbl p l↔y=p\/y∈l
 | [],p=>by simp[zbl]
 | x :: r,p=>by
  have ih:=zoo (y:=y) r x;simp only[N_]at ih;by_cases h:x=p
  ·subst h
   simp only[zbl,x_];simp only[N_,ih]
   constructor
   ·rintro(h|h)<;>simp[h]
   ·rintro(h|h|h)<;>simp[h]
  ·simp only[zbl,m_ h,N_,ih]
theorem ztl:y∈zep l↔y∈l:=by
 cases l with
 | nil=>simp[zep]
 | cons x r=>rw[zep,zoo,N_]
def LeL(l:List (List Int)):Prop:=l.Pairwise λx y=>ltL y x=false
theorem zqf:∀ (l:List (List Int)) (p:List Int),LeL (p :: l)->SortL (p :: zbl p l)
 | [],p,_=>by simp[zbl,SortL]
 | x :: r,p,h=>by
  have h1:=a4_.1 h;have ih:=zqf r x h1.2;by_cases e:x=p
  ·subst e
   simpa [zbl] using ih
  ·simp only[zbl,m_ e]
   have hpx:ltL p x=true:=by
    cases hh:ltL p x with
    | true=>rfl
    | false=>exact absurd (ltL_tri (h1.1 x (by simp)) hh) e
   refine a4_.2 ⟨λy hy=>?_,ih⟩;rcases N_.1 hy with rfl|hy
   ·exact hpx
   ·exact ltL_trans hpx ((a4_.1 ih).1 y hy)
theorem zwm {m:List (List Int)}(h:LeL l)(hm:∀ x,x∈l↔x∈m):zep l=ordL m:=by
 refine ordL_of ?_ λx=>by rw[ztl,hm]
 cases l with
 | nil=>exact sort_nil
 | cons x r=>exact zqf r x h
theorem zqu(l:List α)(k:Nat)(x:α):(l.set k x).take k=l.take k:=by
 apply List.ext_getElem?;intro i;rw[bb_,bb_]
 split
 ·rw[a6_ (by omega)]
 ·rfl
theorem LLs.clear:∀ (m o:Nat) (w:World) (ss:List Value) (xss:List (List Int)),LLs lo hi w (.slice (q_ g 0) n cap) ss xss->n=ss.length ->
  ∃ ss' xss',LLs lo hi (w.setCells g o (List.replicate m ())) (.slice (q_ g 0) n cap) ss' xss'/\ss'.length=ss.length/\xss'.take o=xss.take o/\β lo hi w (w.setCells g o (List.replicate m ()))
 | 0,o,w,ss,xss,h,hn=>⟨ss,xss,h,rfl,rfl,β.refl _ _ _⟩
 | m+1,o,w,ss,xss,h,hn=>by
  obtain⟨h1,h2⟩:=h.put hn (s:=.slice none 0 0) (ys:=[]) (show γ lo hi 3 w () [] from Ω _ _ _ _ _) o;obtain⟨ss',xss',k1,k2,k3,k4⟩:=LLs.clear m (o+1) _ _ _ h1 (by rw[bw_];exact hn);refine⟨ss',xss',k1,by rw[k2,bw_],?_,h2.trans k4⟩;have h4:=congrArg (List.take o) k3;rw[eg_,eg_,eb_ (by omega)]at h4;exact h4.trans (zqu _ _ _)
theorem zlx{l:List (List Int)}:∀ (k:Nat) (h1:1<=k) (hk:k<=l.length),(∀ j (h1:1<=j) (h:j<k),l[j]≠l[j-1])->zep l=l.take k++zbl l[k-1] (l.drop k)
 | 0,h,_,_=>by omega
 | 1,_,hk,_=>by
  cases l with
  | nil=>simp at hk
  | cons x r=>simp[zep]
 | k+2,_,hk,h=>by
  have ih:=zlx (l:=l) (k+1) (by omega) (by omega) (λj h1 h2=>h j h1 (by omega));have hne:=h (k+1) (by omega) (by omega);simp only[c5_]at ih hne
  show zep l=List.take (k+1+1) l++zbl l[k+1] (List.drop (k+1+1) l)
  rw[ih,y_ (by omega:k+1<l.length),zbl,m_ hne,F_ (by omega:k+1<l.length),Z_];rfl
theorem zp8(h:q<l.length)(p:List Int)(e:l[q]=p):zbl p (l.drop q)=zbl l[q] (l.drop (q+1)):=by
 rw[y_ h,zbl,x_ e]
theorem zy6(h:q<l.length)(p:List Int)(e:l[q]≠p):zbl p (l.drop q)=l[q] :: zbl l[q] (l.drop (q+1)):=by
 rw[y_ h,zbl,m_ e]
def zfk(lo hi:Nat)(w wr:World)(g n cap:Nat)(ss:List Value)(xss:List (List Int))(k q:Nat):Prop:=
 ∃ ss' xs',LLs lo hi wr (.slice (q_ g 0) n cap) ss' xs'/\ss'.length=n/\β lo hi w wr/\(∀ i (h1:i<ss.length) (h2:i<xss.length),γ lo hi 3 wr ss[i] xss[i])/\(∀ p,q<=p+1->ss'[p]?=ss[p]?)/\∀ (hq:q-1<xss.length),xs'.take k++zbl xss[q-1] (xss.drop q)=zep xss
theorem zfk.skip(h:zfk lo hi w wr g n cap ss xss k q)(hb:Below wr wr w2)(hh:hi<=wr)(hq:q<xss.length)(h1:1<=q)(e:xss[q]=xss[q-1]):zfk lo hi w w2 g n cap ss xss k (q+1):=by
 obtain⟨ss',xs',a1,a2,a3,a0,a4,a5⟩:=h;refine⟨ss',xs',a1.below hb hh,a2,a3.trans (β.of_below hb (le_ _)),λi h1 h2=>(a0 i h1 h2).below hb hh,λp hp=>a4 p (by omega),λhq'=>?_⟩;simp only[c5_];rw[<-a5 (by omega),zp8 hq _ e]
theorem zfk.keep(h:zfk lo hi w wr g n cap ss xss k q)(hl:LLs lo hi w (.slice (q_ g 0) n cap) ss xss)(hb:Below wr wr w2)(hh:hi<=wr)(hhw:hi<=w)(hq:q<xss.length)(h1:k+1<=q)(hss:q<ss.length)(hn:n=ss.length)(e:xss[q]≠xss[q-1]):
  zfk lo hi w (w2.setCell (p_ g k) ss[q]) g n cap ss xss (k+1) (q+1):=by
 obtain⟨ss',xs',a1,a2,a3,a0,a4,a5⟩:=h;have hr:γ lo hi 3 w2 ss[q] xss[q]:=(a0 q hss hq).below hb hh;have hb1:=(a1.below hb hh).1;rw[a2]at hb1;obtain⟨_,hg1,hg2,cur,hcur⟩:=Own.block (g:=0) hb1;obtain⟨b1,b2⟩:=(a1.below hb hh).put (by omega) hr k;refine⟨_,_,b1,by rw[bw_];exact a2,(a3.trans (β.of_below hb (le_ _))).trans b2,λi h1 h2=>zmt hcur ((a0 i h1 h2).below hb hh) k _,λp hp=>?_,λhq'=>?_⟩
 ·rw[a6_ (by omega)]
  exact a4 p (by omega)
 ·simp only[c5_]
  have hx':k<xs'.length:=by have:=a1.2.1;omega
  rw[<-a5 (by omega),zy6 hq _ e,F_ (by rw[bw_];exact hx'),zqu,List.getElem_set_self,Z_];rfl
theorem z2b(w:World):(zeroValue 22).run prog w=.ok (.slice none 0 0) w:=by kernel_rfl
theorem zz6(lo hi:Nat)(v:Value)(ss:List Value)(xss:List (List Int))(w:World)(hx:LLs lo hi w v ss xss)(hh:hi<=w)(hm:xss.length<=100000):
  Calls prog 248 #[v,.func (.func 71) #[] #[]] w (ι λv' w'=>∃ ss',LLs lo hi w' v' ss' (zep xss)/\β lo hi w w'):=by
 have HX:=H_ hx;have hl:=hx.2.1;obtain⟨a,cap,rfl,hc1,hc2,_,hc3⟩:=θ hx.1;unfold maxLen at hc2;clear hx;by_cases h2:ss.length<2
 ·have hlt:(ss.length:Int)<2:=by omega
  have HC:=H_ (show zep xss=xss by
   match xss,hl with
   | [],_=>rfl
   | [x],_=>rfl
   | _ :: _ :: _,hl=>simp at hl;omega)
  go_enter func248,ntmps248
  go_wp2;go_ret;exact ι.mk _ rfl ⟨ss,by rw[HC.o];exact HX.o,β.refl _ _ _⟩
 ·obtain⟨g,rfl,hg1,hg2⟩:=hc3 (by omega)
  have hlt:¬(ss.length:Int)<2:=by omega
  have⟨n,hn⟩:=ex_ ss.length;have HN:=H_ hn;rw[<-hn]at hc1 hlt h2 hl;have HX':Q_ (LLs lo hi w (.slice (q_ g 0) n cap) ss xss):=by rw[HN.o];exact HX
  have HLX:=H_ hl;have hn6:n<=100000:=by omega
  simp only[<-hn];clear HX hn hc3 hl
  go_enter func248,ntmps248
  go_wp2;go_loopw [5] (λi wr=>∃ k:Nat,1<=k/\k<=n/\i=.int .i64 k/\Q_ (Below w w wr/\∀ j (h1:1<=j) (h:j<k) (h2:j<xss.length),xss[j]≠xss[j-1])) (λi _=>n-(intOf i).toNat)
  case atStart=>exact⟨1,by omega,by omega,rfl,H_ ⟨B_ _ _,λj h1 h=>by omega⟩⟩
  case round=>
   obtain⟨k,hk1,hk,rfl,HQ⟩:=hrel;obtain⟨j,rfl⟩:∃ j,k=j+1:=⟨k-1,by omega⟩;have hwsz:=HQ.o.1.size;have HLr:=H_ (HX'.o.below HQ.o.1 hh);by_cases hlt2:j+1<n
   ·(have hkx:j+1<xss.length:=by have:=HLX.o;omega);(have hks:j+1<ss.length:=by have:=HN.o;omega);(have d1:wr.drew.cell? (p_ g (j+1))=some ss[j+1]:=HLr.o.cell (j+1) hks;have d0:wr.drew.cell? (p_ g j)=some ss[j]:=HLr.o.cell j (by omega))
    have HE0:Q_ (Calls prog 71 #[ss[j+1],ss[j]] wr.drew λe w'=>e=.returned (.bool (eqL xss[j+1] xss[j]))/\Below wr wr w'):=
     H_ ((zge _ _ _ _ _ _ _ _ wr.drew (HLr.o.2.2 (j+1) hks hkx).sl (HLr.o.2.2 j (by omega) (by omega)).sl).mono λe w' h=>⟨h.1,(z_ (B_ wr wr)).trans h.2⟩)
    (obtain⟨b,hb⟩:∃ b,eqL xss[j+1] xss[j]=b:=⟨_,rfl⟩;have HEQ:=H_ hb;rw[hb]at HE0;have⟨u1,hu1⟩:=ex_ (ss[j+1]);have⟨u0,hu0⟩:=ex_ (ss[j]);rw[<-hu1,<-hu0]at HE0;rw[<-hu1]at d1;rw[<-hu0]at d0;have⟨j1,j2,j3,j4,j5⟩:(j:Int)+1<n/\(j:Int)<n/\((j:Int)+1).toNat=j+1/\(0:Int)<=(j:Int)+1/\(0:Int)<=j:=by omega);(have j8:IntKind.i64.wrap (j:Int)=j:=zd1 _ (by omega);clear hb hu1 hu0;go_upto_region 6 with fail)
    go_region_law (first
     | ((first | go_at_call 71 | (go_simp;go_at_call 71));refine HE0.o.mono ?_;rintro e2 w2 ⟨rfl,hb2⟩;(have HB2:=H_ hb2);clear hb2))
    all_goals (
     cases b
     ·have HN2:Q_ (∀ i (h1:1<=i) (h:i<j+1+1) (h2:i<xss.length),xss[i]≠xss[i-1]):=H_ λi h1 h h2=>by
       by_cases e:i=j+1
       ·subst e
        (have h:=HEQ.o;rw[zed]at h);simpa using h
       ·exact HQ.o.2 i h1 (by omega) h2
      (have HB3:=H_ (HQ.o.1.trans (HB2.o.mono hwsz));clear HQ HB2 HE0;go_wp2;go_roundw);(case rel=>exact⟨j+1+1,by omega,by omega,by go_num,H_ ⟨HB3.o,HN2.o⟩⟩);case measure=>simp[intOf];omega
     ·(obtain⟨r,q6⟩:∃ r,n-(j+1)=r:=⟨_,rfl⟩);(have⟨hnr1,hnr2⟩:n<=j+1+r/\j+1+r<=n:=by omega)
      have hev:xss[j+1]=xss[j]:=by
       (have h:=HEQ.o;rw[zed]at h);simpa using h
      have HC0:Q_ (zfk lo hi w w2 g n cap ss xss (j+1) (j+1+1)):=H_ (by
       have hb2:=HB2.o;refine⟨ss,xss,HLr.o.below hb2 (by omega),HN.o.symm,(β.of_below (HQ.o.1.trans (hb2.mono hwsz)) (le_ _)),λi h1 h2=>(HLr.o.2.2 i h1 h2).below hb2 (by omega),λp hp=>rfl,λhq=>?_⟩;have h:=zlx (l:=xss) (j+1) (by omega) (by omega) (λi h1 h=>HQ.o.2 i h1 h (by omega));simp only[c5_]at h ⊢;rw[h,zp8 hkx _ hev])
      (have hs2:=HB2.o.size;clear HQ HB2 HE0 HLr HEQ d0 d1 hev;have⟨q1,q2,q7,q3,q4,q5⟩:¬cap=j+1/\(0:Int)<=r/\(j:Int)+1<=n/\(j:Int)+1<=cap/\(n:Int)<=cap/\j+1<=cap:=by omega);go_wp2;go_loopw [5,7] (λi1 i2 wr=>∃ k m:Nat,j+1<=k/\k<=j+1+m/\m+1<=r/\i1=.int .i64 k/\i2=.int .i64 ((m+1:Nat):Int)/\w2<=wr.heap.size/\Q_ (zfk lo hi w wr g n cap ss xss k (j+1+(m+1)))) (λ_ i _=>r-(intOf i).toNat)
      case atStart=>exact⟨j+1,0,by omega,by omega,by omega,by first | rfl | go_num,by first | rfl | go_num,le_ _,HC0⟩
      case round=>
       clear HC0;obtain⟨k,m,hk1,hk2,hm3,rfl,rfl,hsr,HC⟩:=hrel;obtain⟨ss',xs',a1,a2,a3,a0,a4,a5⟩:=HC.o;by_cases hlt3:m+1<r
       ·clear a5 a3
        (have hq:j+1+(m+1)<xss.length:=by have:=HLX.o;omega);(have hqs:j+1+(m+1)<ss.length:=by have:=HN.o;omega);(have hr1:=a0 (j+1+(m+1)) hqs hq;have hr0:=a0 (j+1+m) (by omega) (by omega))
        have d1:wr.drew.cell? (p_ g (j+1+(m+1)))=some ss[j+1+(m+1)]:=by
         have h4:=a4 (j+1+(m+1)) (by omega);rw[l_ (by omega),l_ hqs]at h4;injection h4 with h4;exact(a1.cell (j+1+(m+1)) (by omega)).trans (by rw[h4])
        have d0:wr.drew.cell? (p_ g (j+1+m))=some ss[j+1+m]:=by
         have h4:=a4 (j+1+m) (by omega);rw[l_ (by omega),l_ (by omega:j+1+m<ss.length)]at h4;injection h4 with h4;exact(a1.cell (j+1+m) (by omega)).trans (by rw[h4])
        (obtain⟨b,hb⟩:∃ b,eqL xss[j+1+(m+1)] xss[j+1+m]=b:=⟨_,rfl⟩)
        have HE0:Q_ (Calls prog 71 #[ss[j+1+(m+1)],ss[j+1+m]] wr.drew λe w'=>e=.returned (.bool b)/\Below wr wr w'):=
         H_ ((zge _ _ _ _ _ _ _ _ wr.drew hr1.sl hr0.sl).mono λe w' h=>⟨by rw[h.1,hb],(z_ (B_ wr wr)).trans h.2⟩)
        (have HEQ:=H_ hb;have HA1:=H_ a1;have HU:=H_ (show ss[j+1+(m+1)]=ss[j+1+(m+1)] from rfl);obtain⟨ya,yc,hu⟩:=η hr1;rw[hu]at d1 HE0;have HU2:=H_ hu;have⟨u0,hu0⟩:=ex_ (ss[j+1+m]);rw[<-hu0]at d0 HE0;have hyl:xss[j+1+(m+1)].length=xss[j+1+(m+1)].length:=rfl;have⟨yn,hyn⟩:=ex_ (xss[j+1+(m+1)].length);rw[<-hyn]at d1 HE0;have HYN:=H_ hyn;clear hu hu0 hyn hyl hb hr1 hr0 a0 a4 a1 HU;have⟨p1,p2,p3,p4,p5,p6⟩:(m:Int)+1<r/\(m:Int)<r/\((m:Int)+1).toNat=m+1/\(0:Int)<=(m:Int)+1/\(0:Int)<=m/\(k:Int)<n:=by omega);(have p8:IntKind.i64.wrap (m:Int)=m:=zd1 _ (by omega);go_upto_region 11 with fail)
        go_region_law (first
         | ((first | go_at_call 71 | (go_simp;go_at_call 71));refine HE0.o.mono ?_;rintro e3 w3 ⟨rfl,hb3⟩;(have HB3:=H_ hb3);clear hb3))
        all_goals (
         have hs3:=HB3.o.size;cases b
         ·have hne:xss[j+1+(m+1)]≠xss[j+1+m]:=by
           (have h:=HEQ.o;rw[zed]at h);simpa using h
          (have HA3:=H_ (HA1.o.below HB3.o (by omega));have f1:w3.cell? (p_ g (j+1+(m+1)))=some (.slice ya yn yc):=(HB3.o.cell (p:=p_ g (j+1+(m+1))) (show g<wr by omega)).trans d1;have f2:=HA3.o.cell k (by omega))
          have f3:w3.frozen? (p_ g k)=false:=by
           have h:=HA3.o.1;rw[a2]at h;exact dd_ h.1 k
          (have HK:=H_ (HC.o.keep HX'.o HB3.o (by omega) hh hq (by omega) hqs HN.o (by simpa using hne)))
          have HK2:Q_ (zfk lo hi w (w3.setCell (p_ g k) (.slice ya yn yc)) g n cap ss xss (k+1) (j+1+(m+1)+1)):=by
           have h:=HK.o;rw[HU2.o,<-HYN.o]at h;exact H_ h
          (have hz4:(w3.setCell (p_ g k) (.slice ya yn yc)).heap.size=w3.heap.size:=by simp[World.setCell]);(have hz5:w2.heap.size<=(w3.setCell (p_ g k) (.slice ya yn yc)).heap.size:=by omega);clear hne HK HC HA1 HE0 HEQ hz4;go_wp2;go_roundw
          (case rel=>exact⟨k+1,m+1,by omega,by omega,by omega,by go_num,by go_num,hz5,HK2⟩);case measure=>simp[intOf];omega
         ·have hev:xss[j+1+(m+1)]=xss[j+1+m]:=by
           (have h:=HEQ.o;rw[zed]at h);simpa using h
          (have HK:=H_ (HC.o.skip HB3.o (by omega) hq (by omega) (by simpa using hev));clear hev HC HA1 HE0 HEQ;go_wp2;go_roundw);(case rel=>exact⟨k,m+1,by omega,by omega,by omega,by go_num,by go_num,by omega,HK⟩);case measure=>simp[intOf];omega)
       ·(have hkn:k<n:=by omega)
        have hcl:∀ ty,(Builtin.clear_ #[119] ty #[.slice (q_ g k) (n-k) (cap-k)]).run prog wr=.ok (.tuple #[]) (wr.setCells g k (List.replicate (n-k) ())):=λty=>
         Lib.run_clear_slice wr _ _ ty _ underlying119 z2b rfl rfl g k _ _ (by omega) (λi hi=>by rw[a1.cell (k+i) (by omega)];rfl) (λi hi=>by
          have h:=a1.1;rw[a2]at h;exact dd_ h.1 (k+i))
        (obtain⟨ss2,xs2,b1,b2,b3,b4⟩:=LLs.clear (n-k) k wr ss' xs' a1 a2.symm;have⟨wz,hwz⟩:=ex_ (wr.setCells g k (List.replicate (n-k) ()));have hR:=b1.front (m:=k) (by rw[b2,a2]) (by omega);have e5:=a5 (by have:=HLX.o;omega);rw[cb_ (by have:=HLX.o;omega),zbl,cx_]at e5;rw[b3,e5]at hR;rw[<-hwz]at hR b4 hcl;have HR:=H_ (a_ hR (a3.trans b4));have⟨p1,p2,p3,p4,p5,p7⟩:¬(m:Int)+1<r/\(k:Int)<=n/\(k:Int)<=cap/\¬cap=k/\(0:Int)<=k/\k<=cap:=by omega);clear hwz hR b1 b2 b3 b4 e5 a5 a4 a3 a0 a1 a2 HC;go_wp2;go_ret;have hq:=HR.o;exact ι.mk _ rfl ⟨⟨_,hq.1⟩,hq.2⟩)
   ·(obtain rfl:n=j+1:=by omega)
    have HC:Q_ (zep xss=xss):=H_ (by
     have h:=zlx (l:=xss) (j+1) (by omega) (by have:=HLX.o;omega) (λi h1 h=>HQ.o.2 i h1 h (by have:=HLX.o;omega));rw[h];have e:xss.length=j+1:=HLX.o.symm;rw[cb_ (by omega),ay_ (by omega)];simp[zbl])
    have HB3:=H_ (a_ HLr.o (β.of_below HQ.o.1 (le_ _):β lo hi w wr));clear HQ;go_wp2;go_ret;exact ι.mk _ rfl ⟨ss,by rw[HC.o];exact HB3.o.1,HB3.o.2⟩
open Go.Shelf Go.Lib Go.Sort in
theorem swoL:SWO (α:={p:Value × List Int // γ lo hi 3 w p.1 p.2}) (ltOf λx y=>zcu x.1.2 y.1.2) where
 irrefl x:=by simp only[ltOf,zil];exact ltL_irr _
 trans x y z h1 h2:=by simp only[ltOf,zil] at *;exact ltL_trans h1 h2
 ntrans x y z h1 h2:=by
  simp only[ltOf,zil]at *;cases h:ltL x.1.2 z.1.2 with
  | false=>rfl
  | true=>
   cases h3:ltL y.1.2 x.1.2 with
   | true=>rw[ltL_trans h3 h] at h2;cases h2
   | false=>rw[ltL_tri h1 h3] at h;rw[h] at h2;cases h2
section
open Go.Shelf Go.Lib Go.Sort
theorem zts[Inhabited α](enc:α->Value)(w:World)(g off m:Nat)(d:Array α)(os:Array Obj):(sortWorld enc w g off m d os).heap.size=w.heap.size+os.size:=by
 simp[sortWorld,grow,putRow,mapBlock,Sort.ahead]
theorem zoa[Inhabited α](enc:α->Value)(w:World)(g off m:Nat)(d:Array α)(os:Array Obj)(k:Nat)(hk:k<w)(hg:k≠g):(sortWorld enc w g off m d os).heap[k]?=w.heap[k]?:=by
 simp only[sortWorld,grow,putRow,mapBlock,Sort.ahead];rw[dy_ (by simpa using hk),V_,m_ (λe=>hg e.symm)]
theorem sw_at[Inhabited α](enc:α->Value)(w:World)(g m:Nat)(d:Array α)(os:Array Obj){cur:Array Value}{e:TypeId}(h:w.heap[g]?=some (.cells cur e (0,0))):(sortWorld enc w g 0 m d os).heap[g]?=some (.cells (putCells enc 0 d cur) e (0,0)):=by
 have hk:=(L_.1 h).1;simp only[sortWorld,grow,putRow,mapBlock,Sort.ahead];rw[dy_ (by simpa using hk),V_,x_ rfl,h];rfl
theorem zzx[Inhabited α](enc:α->Value)(w:World)(g off m:Nat)(d:Array α)(os:Array Obj):β g (g+1) w (sortWorld enc w g off m d os):=
 ⟨rfl,rfl,rfl,by rw[zts];omega,λk hk hd=>zoa enc w g off m d os k hk (by omega)⟩
theorem zuf[Inhabited α](enc:α->Value)(d:Array α)(cur:Array Value)(h:d.size<=cur.size):(putCells enc 0 d cur).toList.take d.size=d.toList.map enc:=by
 apply bd_
 ·simp[putCells];omega
 ·intro i h1 h2
  simp at h2;simp[putCells,h2]
end
section
open Go.Shelf Go.Lib Go.Sort
theorem zlh {off:Nat}[Inhabited α]{enc:α->Value}{w:World}{cur:Array Value}{d:Array α}{os:Array Obj}{u:Value}{ys:List Int}(hcur:w.heap[g]?=some (.cells cur 22 (0,0)))(hu:γ lo hi 3 w u ys):γ lo hi 3 (sortWorld enc w g off m d os) u ys:=by
 rcases hu.1.2 with⟨h1,h0⟩|⟨g',cap',cur',e1,hb,hg',hrest⟩
 ·exact⟨⟨hu.1.1,.inl ⟨h1,h0⟩⟩,hu.2⟩
 ·refine⟨⟨hu.1.1,.inr ⟨g',cap',cur',e1,hb,?_,hrest⟩⟩,hu.2⟩
  rw[zoa enc w g off m d os g' (L_.1 hg').1 (λe=>by
   subst e;rw[hcur]at hg';injection hg' with hg';injection hg' with _ h2 _;exact absurd h2 (by decide))]
  exact hg'
theorem β.sub(h:β g (g+1) w w')(h1:lo<=g)(h2:g<hi):β lo hi w w':=⟨h.os,h.tape,h.output,h.size,λk hk hd=>h.block k hk (by omega)⟩
abbrev zhm(lo hi:Nat)(w:World):Type:={p:Value × List Int // γ lo hi 3 w p.1 p.2}
def zwa(lo hi:Nat)(w:World):zhm lo hi w:=⟨(.slice none 0 0,[]),Ω _ _ _ _ _⟩
theorem z0p(lo hi:Nat)(v:Value)(ss:List Value)(xss:List (List Int))(w:World)(hx:LLs lo hi w v ss xss)(hh:hi<=w)(hm:ss.length<=100000):
  Calls prog 246 #[v,.func (.func 247) #[] #[]] w λe w'=>e=.returned (.tuple #[])/\∃ ss' xss',LLs lo hi w' v ss' xss'/\(∀ x,x∈xss'↔x∈xss)/\LeL xss'/\ss'.length=ss.length/\β lo hi w w':=by
 have hl:=hx.2.1;rcases hx.1.1.2 with⟨hv,h0⟩|⟨g,cap,cur,rfl,hg1,hcur,hnc,hcm,hcs,htk⟩
 ·subst hv
  have hss:ss=[]:=A_ h0;subst hss;have hxs:xss=[]:=A_ hl.symm;subst hxs;have hcon:=AnyF.slices_SortFunc_none (P:=prog) (ρ:=Tryz.sortLL_ren) { Tryz.sortLL with } none 0 (.func (.func 247) #[] #[]) w
  change Calls prog 246 _ _ _ at hcon
  refine hcon.mono ?_;rintro e w' ⟨rfl,rfl⟩;exact⟨rfl,[],[],hx,λ_=>Iff.rfl,List.Pairwise.nil,rfl,β.refl _ _ _⟩
 ·have hg2:g<hi:=hx.1.2 g rfl
  letI:Inhabited (zhm lo hi w):=⟨zwa lo hi w⟩
  let enc:zhm lo hi w->Value:=λp=>p.1.1
  let cf:zhm lo hi w->zhm lo hi w->Int:=λx y=>zcu x.1.2 y.1.2
  have h1:OneCell enc:=λx=>by
   obtain⟨a,c,e⟩:=η x.2
   show x.1.1.oneCell'=true
   rw[e];rfl
  let d:Array (zhm lo hi w):=Array.ofFn λi:Fin ss.length=>⟨(ss[i.val],xss[i.val]'(by omega)),hx.2.2 i.val i.isLt (by omega)⟩
  have hd:d.size=ss.length:=by simp[d]
  have hdj:∀ j (h:j<ss.length),(d[j]!).1=(ss[j],xss[j]'(by omega)):=λj h=>by
   rw[getElem!_pos d j (by omega)];simp[d]
  have hH:Holds enc w g 0 d:=λj hj=>by
   rw[hd]at hj;have:=hdj j hj;refine⟨?_,by simp[World.frozen?,hcur]⟩
   show w.cell? (p_ g (0+j))=some (d[j]!).1.1
   rw[this,U_];exact hx.cell j hj
  have hcmp:CmpReads prog 247 #[] enc cf g 0 d.size w:=λm os dk hk x y=>by
   refine(zv5 _ _ _ _ x.1.1 y.1.1 x.1.2 y.1.2 _ (zlh hcur x.2).sl (zlh hcur y.2).sl).mono ?_;rintro e w' ⟨rfl,rfl⟩;exact⟨rfl,0,rfl⟩
  have eg:∀ args w,(callFunc 247 args).run prog w=.ok (.enter 247 args) w:=enters_of func247 (by kernel_rfl) rfl;have hcon:=Any.slices_SortFunc Tryz.sortLL enc h1 cf swoL 247 #[] g 0 cap d w eg hcmp.lays hH (L_.1 hcur).1 (by omega)
  change Calls prog 246 _ _ _ at hcon
  rw[hd]at hcon;refine hcon.mono ?_;rintro e w' ⟨rfl,d',m,os,hp,hs,rfl⟩;have hds:d'.size=ss.length:=hp.1.trans hd
  have hperm:d'.toList.Perm d.toList:=by
   have h:=hp.2.2;have e1:(d'.extract 0 ss.length).toList=d'.toList:=by rw[<-hds];simp
   have e2:(d.extract 0 ss.length).toList=d.toList:=by rw[<-hd];simp
   rw[e1,e2]at h;exact h
  have hcurs:d'.size<=cur.size:=by rw[hds];omega
  refine⟨rfl,d'.toList.map enc,d'.toList.map λp=>p.1.2,⟨⟨⟨by simp[hds],.inr ⟨g,cap,putCells enc 0 d' cur,by simp[hds],hg1,sw_at enc w g m d' os hcur,by simp[hds];exact hnc,hcm,by simp[putCells,hcs],?_⟩⟩,λk hk=>?_⟩,by simp,λi h1 h2=>?_⟩,λx=>?_,?_,by simp[hds],(zzx enc w g 0 m d' os).sub hg1 hg2⟩
  ·rw[Nat.mul_one]
   simpa using zuf enc d' cur hcurs
  ·exact hx.1.2 k (by simpa [Value.ownBlock] using hk)
  ·simp only[bq_]
   exact zlh hcur (d'.toList[i]'(by simpa using h1)).2
  ·have hmap:(d.toList.map λp=>p.1.2)=xss:=by
    apply bd_
    ·simp[hd,hl]
    ·intro i h1 h2
     simp[d]
   rw[<-hmap];exact(hperm.map _).mem_iff
  ·refine bt_.2 λi j hi' hj hij=>?_
   simp only[X_,Array.length_toList]at hi' hj;have h:=hs i j (aw_ _) hij (by omega);rw[getElem!_pos d' j (by omega),getElem!_pos d' i (by omega)]at h;simp only[ltOf,cf,zil]at h
   simpa using h
end
theorem zvc(lo hi:Nat)(v:Value)(ss:List Value)(xss:List (List Int))(w:World)(hx:LLs lo hi w v ss xss)(hh:hi<=w)(hm:ss.length<=100000):
  Calls prog 234 #[v] w (ι λv' w'=>(∃ ss',LLs lo hi w' v' ss' (ordL xss))/\β lo hi w w'):=by
 have HX:=H_ hx;obtain⟨a,cap,rfl⟩:=η hx.1;clear hx
 go_enter func234,ntmps234
 go_wp2_with fail
 refine(z0p lo hi _ ss xss w HX.o hh hm).mono ?_;rintro e w1 ⟨rfl,ss1,xs1,h1,hmem,hle,hlen,ho⟩;have hl:=h1.2.1;have hsz:=ho.size;have H1:=H_ (a_ h1 (a_ (zwm hle hmem) ho));clear h1 hmem hle ho;go_wp2_with fail
 refine(zz6 lo hi _ ss1 xs1 w1 H1.o.1 (by omega) (by omega)).mono ?_;rintro e w2 ⟨v2,rfl,ss2,h2,ho2⟩;have H2:=H_ (a_ h2 ho2);obtain⟨a2,cap2,rfl⟩:=η h2.1;clear h2 ho2;go_wp2;go_ret;exact ι.mk _ rfl ⟨⟨ss2,by rw[<-H1.o.2.1];exact H2.o.1⟩,H1.o.2.2.trans H2.o.2⟩
theorem LLs.push(h:LLs lo hi w v ss xss)(hg:w.grownBy w' v.ownBlock)(ho:Own 1 lo hi' 22 w' v' (ss.length+1) (ss++[s]))
  (hs:γ lo hi' 3 w s ys) (hh:hi<=hi'):LLs lo hi' w' v' (ss++[s]) (xss++[ys]):=by
 have kept:∀ {u:Value} {ys:List Int} {hj:Nat},γ lo hj 3 w u ys->γ lo hj 3 w' u ys:=by
  intro u ys hj hu;refine⟨hu.1.kept hg ?_,hu.2⟩;cases hub:u.ownBlock with
  | none=>exact .inl rfl
  | some k=>
   right
   intro e;rcases hu.1.2 with⟨rfl,_⟩|⟨g',cap',cur',rfl,_,hg',_⟩
   ·cases hub
   ·rcases h.1.1.2 with⟨rfl,_⟩|⟨gO,capO,curO,rfl,_,hgO,_⟩
    ·cases e
    ·simp only[Value.ownBlock,ar_]at hub e
     rw[hub,e]at hg';rw[hg']at hgO;injection hgO with hgO;injection hgO with _ h2 _;exact absurd h2 (by decide)
 refine⟨by rw[n_];exact ho,by simp[h.2.1],λi h1 h2=>?_⟩;by_cases hi:i<ss.length
 ·rw[aq_ hi,aq_ (by have:=h.2.1;omega)]
  exact(kept (h.2.2 i hi (by have:=h.2.1;omega))).lower (le_ _) hh
 ·have e1:i=ss.length:=by simp at h1;omega
  have e2:i=xss.length:=by have:=h.2.1;omega
  rw[a9_ (by omega),a9_ (by omega)];simp only[e1,be_,bh_];have e3:ss.length-xss.length=0:=by omega
  simp only[e3,bh_];exact kept hs
theorem zno(a b:KT)(α:Nat)(c:Int):ordL (partsV a α c++partsV b α c)=partsV (.bin true a b) α c:=by
 refine(ordL_of (partsV_sort _ _ _) λx=>?_).symm;rw[partsV_or,addsL_mem,E_]
theorem znv(a b:KT)(α:Nat)(c:Int):ordL ((partsV a α c).map (λq=>behV q b.post)++if (endsK a).testBit α then partsV b α c else [])=partsV (.bin false a b) α c:=by
 refine(ordL_of (partsV_sort _ _ _) λx=>?_).symm;rw[partsV_seq,addsL_mem,E_,ordL_mem]
theorem zrj(a:KT)(α:Nat)(c:Int):ordL ((partsV a α c).map λq=>behV q (KT.star a).post)=partsV (.star a) α c:=by
 rw[partsV_star]
section
variable {P:Program} {w:World}
theorem zve {ops:Array Oper} {o:Oper} {a:Act} {K:Act->World->Prop} {Q:Exit->Act->World->Prop} {E:Prop}(hgd:o.guard=none)(s x:Operand)(t:TypeId)
  (ho:o.op=.call { callee:=.builtin .append,args:=#[s,x],argTypes:=#[t,t] })
  (e:TypeId) (z:Value) (sz bytes:Nat) (ht:P.underlying t=some (.slice e)) (hinfo:(P.info? e).map (λi=>(i.zero,i.size,i.bytes))=some (some z,sz,bytes))
  (hzs:z.cells.size=sz) (hsz:0<sz) (hby:bytes<=64)
  {lo hi lo' hi' n:Nat} {v:Value} {xs:List Value} (hs:a.eval s=v) (hown:Own sz lo hi e w v n xs)
  {vx:Value} {m:Nat} {ys:List Value} (hx:a.eval x=vx) (hsl:Sl sz lo' hi' w vx m ys) (h1:∀ u∈ys,u.oneCell'=true)
  (hn:n+m<=1073741824) (hlo:lo<=w)
  (h:∀ v' w',Own sz lo w'.heap.size e w' v' (n+m) (xs++ys)->β lo hi w w'->w.grownBy w' v.ownBlock->K (a.put o.dst v') w') :
  if Region.wanted o (yielded ops a.tmps)=true then Oper.wp P o a w K Q else E:=by
 obtain⟨ao,c,rfl,hmc,hcm,hlen,hnone,hc⟩:=hsl;cases ao with
 | none=>
  have hw:Region.wanted o (yielded ops a.tmps)=true:=by simp[Region.wanted,hgd]
  rw[x_ hw];obtain⟨i,hi0,hz,hsize,hb⟩:=b8_ hinfo;obtain rfl:=hnone rfl;obtain rfl:m=0:=by omega
  obtain rfl:ys=[]:=A_ (by simpa using hlen);have hrun:=run_append_owned_none (P:=P) w lo t o.type e i sz ht hi0 _ n xs hown.1;have hk:=h v w (by simpa using ⟨hown.1,λg hg=>(hown.1.lt g hg).2⟩) (β.refl _ _ _) (World.grownBy.refl _ _);unfold Oper.wp;simp[execOp,ho,resolve,invoke,builtin,hs,hx,hrun,Result.andThen];exact hk
 | some ad=>exact zbp hgd s x t ho e z sz bytes ht hinfo hzs hsz hby hs hown hx ⟨some ad,c,rfl,hmc,hcm,hlen,hnone,hc⟩ h1 hn hlo h
end
theorem LLs.join {us:List Value}(h:LLs lo hi w v ss xss)(hg:w.grownBy w' v.ownBlock)(ho:Own 1 lo hi' 22 w' v' n (ss++us))(hn:n=ss.length+us.length)
  (hl:us.length=yss.length) (hs:∀ i (h1:i<us.length) (h2:i<yss.length),γ lo hi' 3 w us[i] yss[i]) (hh:hi<=hi'):LLs lo hi' w' v' (ss++us) (xss++yss):=by
 have kept:∀ {u:Value} {ys:List Int} {hj:Nat},γ lo hj 3 w u ys->γ lo hj 3 w' u ys:=by
  intro u ys hj hu;refine⟨hu.1.kept hg ?_,hu.2⟩;cases hub:u.ownBlock with
  | none=>exact .inl rfl
  | some k=>
   right
   intro e;rcases hu.1.2 with⟨rfl,_⟩|⟨g',cap',cur',rfl,_,hg',_⟩
   ·cases hub
   ·rcases h.1.1.2 with⟨rfl,_⟩|⟨gO,capO,curO,rfl,_,hgO,_⟩
    ·cases e
    ·simp only[Value.ownBlock,ar_]at hub e
     rw[hub,e]at hg';rw[hg']at hgO;injection hgO with hgO;injection hgO with _ h2 _;exact absurd h2 (by decide)
 have h2':=h.2.1;refine⟨by rw[n_,<-hn];exact ho,by simp[h2',hl],λi h1 h2=>?_⟩;by_cases hi0:i<ss.length
 ·rw[aq_ hi0,aq_ (by omega)]
  exact(kept (h.2.2 i hi0 (by omega))).lower (le_ _) hh
 ·rw[a9_ (by omega),a9_ (by omega)]
  have e:i-ss.length=i-xss.length:=by omega
  have:=hs (i-ss.length) (by simp at h1;omega) (by simp at h1;omega);simp only[<-e];exact kept this
def za9:=@LLs.join
theorem LLs.cellsOne(h:LLs lo hi w v ss xss):∀ u∈ss,u.oneCell'=true:=by
 intro u hu;obtain⟨i,hi,rfl⟩:=ax_ hu;obtain⟨a,c,e⟩:=η (h.2.2 i hi (by have:=h.2.1;omega));rw[e];rfl
def zey(t:KT):Prop:=∀ (lo:Nat) (ptr:Value) (w:World) (α:Nat) (c:Int),RT lo none w t ptr->t.ok 0=true->t.size<=2000->α<4->16<=c->c<=18->(∀ x∈partsV t α c,x.length<=100000) ->
 Calls prog 209 #[ptr,.int .i64 α,.int .i64 c] w (ι λv w'=>(∃ ss,LLs w w' w' v ss (partsV t α c))/\Below w w w')
theorem zgd(h:LLs w w1 w1 v ss xss)(hb:Below w w w1)(hm:ss.length<=100000)(he:ordL xss=yss):
  Calls prog 234 #[v] w1 (ι λv' w'=>(∃ ss',LLs w w' w' v' ss' yss)/\Below w w w'):=by
 refine(zvc _ _ v ss xss w1 h (le_ _) hm).mono ?_;rintro e w2 ⟨v2,rfl,⟨ss2,h2⟩,ho⟩;rw[he]at h2;exact ι.mk _ rfl ⟨⟨ss2,h2.lower (le_ _) ho.size⟩,ε hb ho (le_ _) hb.size⟩
theorem zx2(n:Int):zey (.leaf n):=by
 intro lo ptr w α c hp hok hsz hα hc1 hc2 hB;clear hB;obtain⟨ps,⟨b,kv,rfl,_,_,hblk,a,cap,rfl,hpc,hcm,hkid⟩,hstk⟩:=hp.node;have hb18:0<=n/\n<=18:=by simpa [KT.ok] using hok
 have k0:w.cell? (p_ b 0)=some (.int .i64 n):=hblk.cell 0;have HN0:=H_ (zfu w w w);clear hp hok hblk hkid hstk;by_cases h16:16<=n
 ·have HIS:=H_ (show zal n=true by simp[zal,h16,hb18.2])
  by_cases hnc:n=c
  ·subst hnc
   have HPV:=H_ (show partsV (.leaf n) α n=[[15]] by simp[partsV]);have⟨w2,hw2⟩:=ex_ ((w.alloc (.cells #[(15:Int)] 3)).alloc (.cells #[.slice (q_ w 0) 1 1] 22));have hz1:(w.alloc (.cells #[(15:Int)] 3)).heap.size=w.heap.size+1:=μ _ _;have hz2:w2=w.heap.size+1+1:=by rw[hw2,μ,hz1]
   have hb2:Below w w w2:=by rw[hw2];exact((B_ _ _).alloc (le_ _) _).alloc (by simp) _
   have hrow:γ w w2 3 w2 (.slice (q_ w 0) 1 1) [15]:=by
    rw[hw2];exact((zym 15 w).alloc _).wide2 (le_ _) (by rw[<-hw2];omega)
   have hsl:Sl 1 (w+1) (w.heap.size+1+1) w2 (.slice (q_ (w+1) 0) 1 1) 1 [.slice (q_ w 0) 1 1]:=by
    have h:=(ς 1 22 (w.alloc (.cells #[(15:Int)] 3)) [.slice (q_ w 0) 1 1] 1 (by omega) rfl).sl;rw[hz1]at h;rw[hw2];exact h
   have HL:=H_ hsl;have HR:=H_ hrow;have HB2:=H_ hb2;have HW2:=H_ hw2;have H02:=H_ (LLs.below HN0.o hb2 (le_ _));clear hsl hrow hb2 hw2 hz1
   go_enter func209,ntmps209
   go_wp2_with (first
    | (go_at_call 176;refine(zb3 _ _).mono ?_;rintro e_ _ ⟨rfl,rfl⟩;rw[HIS.o])
    | (at_builtin;go_loud (rw[<-HW2.o];refine Μ rfl _ _ 119 rfl 22 () 1 24 underlying119 zab rfl (by decide) (by decide) rfl H02.o.1 rfl HL.o (by intro u hu;simp only[k_] at hu;subst hu;rfl) ?c1 ?c2 ?_)))
   case c1=>simp
   case c2=>omega
   intro v5 w5 ho5 hg5 hout5 _
   have H5:=H_ (za9 (us:=[.slice (q_ w 0) 1 1]) (yss:=[[15]]) H02.o hg5 ho5 (by simp) rfl (λi h1 h2=>by
    (have:i=0:=by simpa using h1);subst this;exact HR.o.lower (le_ _) hout5.size) (by have:=hout5.size;omega))
   have HB5:=H_ (ε HB2.o hout5 (le_ _) HB2.o.size);obtain⟨a5,c5,rfl⟩:=η ho5;clear ho5 hg5 hout5;go_wp2_with fail
   refine(zgd (yss:=partsV (.leaf n) α n) H5.o HB5.o (by simp) (by rw[HPV.o];rfl)).mono ?_;rintro e w6 ⟨v6,rfl,⟨ss6,h6⟩,hb6⟩;have H6:=H_ (a_ h6 hb6);obtain⟨a6,c6,rfl⟩:=η h6.1;clear h6 hb6;go_wp2;go_ret;exact ι.mk _ rfl ⟨⟨ss6,H6.o.1⟩,H6.o.2⟩
  ·have HPV:=H_ (show partsV (.leaf n) α c=[] by simp[partsV,hnc])
   have hncb:(n==c)=false:=by simpa using hnc
   go_enter func209,ntmps209
   go_wp2_with (go_at_call 176;refine(zb3 _ _).mono ?_;rintro e_ _ ⟨rfl,rfl⟩;rw[HIS.o])
   refine(zgd (yss:=partsV (.leaf n) α c) HN0.o (B_ _ _) (by simp) (by rw[HPV.o];rfl)).mono ?_;rintro e w6 ⟨v6,rfl,⟨ss6,h6⟩,hb6⟩;have H6:=H_ (a_ h6 hb6);obtain⟨a6,c6,rfl⟩:=η h6.1;clear h6 hb6;go_wp2;go_ret;exact ι.mk _ rfl ⟨⟨ss6,H6.o.1⟩,H6.o.2⟩
 ·have HIS:=H_ (show zal n=false by simp[zal];omega)
  have HPV:=H_ (show partsV (.leaf n) α c=[] by simp[partsV];omega);have n19:(n==19)=false:=by simp;omega
  have n20:(n==20)=false:=by simp;omega
  have n21:(n==21)=false:=by simp;omega
  go_enter func209,ntmps209
  go_wp2_with (go_at_call 176;refine(zb3 _ _).mono ?_;rintro e_ _ ⟨rfl,rfl⟩;rw[HIS.o])
  refine(zgd (yss:=partsV (.leaf n) α c) HN0.o (B_ _ _) (by simp) (by rw[HPV.o];rfl)).mono ?_;rintro e w6 ⟨v6,rfl,⟨ss6,h6⟩,hb6⟩;have H6:=H_ (a_ h6 hb6);obtain⟨a6,c6,rfl⟩:=η h6.1;clear h6 hb6;go_wp2;go_ret;exact ι.mk _ rfl ⟨⟨ss6,H6.o.1⟩,H6.o.2⟩
theorem zv6(iha:zey a')(ihb:zey b'):zey (.bin true a' b'):=by
 intro lo ptr w α c hp hok hsz hα hc1 hc2 hB;obtain⟨ps,⟨b,kv,rfl,_,_,hblk,a,cap,rfl,hpc,hcm,hkid⟩,hstk⟩:=hp.node;have hpl:=hstk.length;simp only[KT.kids,I_,an_]at hpl
 obtain⟨u0,u1,rfl⟩:∃ u0 u1,ps=[u0,u1]:=by
  match ps,hpl with
  | [x,y],_=>exact⟨x,y,rfl⟩
 obtain⟨gk,ok,rfl,_,_,hgk,kc0⟩:=hkid 0 (by simp);obtain⟨gk',ok',e1,_,_,_,kc1⟩:=hkid 1 (by simp);injection e1 with e1;injection e1 with e1 e2;subst e1 e2;simp only[KT.size]at hsz;have hok2:a'.ok 0=true/\b'.ok 0=true:=by simpa [KT.ok] using hok
 have HSTK:=H_ hstk;have HIHa:Q_ (∀ w',Below w w w'->Calls prog 209 #[u0,.int .i64 α,.int .i64 c] w' (ι λv w2=>(∃ ss,LLs w'.heap.size w2.heap.size w2 v ss (partsV a' α c))/\Below w'.heap.size w' w2)):=H_ λw' hb=>iha lo u0 w' α c (zdz HSTK.o.1 hb) hok2.1 (by omega) hα hc1 hc2 (λx hx=>hB x (by rw[<-zno,ordL_mem,E_];exact .inl hx))
 have HIHb:Q_ (∀ w',Below w w w'->Calls prog 209 #[u1,.int .i64 α,.int .i64 c] w' (ι λv w2=>(∃ ss,LLs w'.heap.size w2.heap.size w2 v ss (partsV b' α c))/\Below w'.heap.size w' w2)):=H_ λw' hb=>ihb lo u1 w' α c (zdz HSTK.o.2.1 hb) hok2.2 (by omega) hα hc1 hc2 (λx hx=>hB x (by rw[<-zno,ordL_mem,E_];exact .inr hx))
 have HGS:Q_ (∀ w':World,Below w w w'->w'.cell? (p_ b 0)=some (.int .i64 20)/\w'.cell? (p_ b 1)=some (.slice (q_ gk ok) 2 cap)/\w'.cell? (p_ gk ok)=some u0/\w'.cell? (p_ gk (ok+1))=some u1):=H_ λw' hb=>⟨(hblk.below hb hblk.lt).cell 0,(hblk.below hb hblk.lt).cell 1,(hb.cell (p:=p_ gk (ok+0)) hgk).trans kc0,(hb.cell (p:=p_ gk (ok+1)) hgk).trans kc1⟩
 have hla:=partsV_len hok2.1 (α:=α) hc1;have hlb:=partsV_len hok2.2 (α:=α) hc1;have HPV:=H_ (zno a' b' α c);have HIS:=H_ (show zal 20=false by decide);have S0:=HGS.o w (B_ _ _);have SD:=HGS.o w.drew (z_ (B_ _ _));have hdz:w.drew.heap.size=w.heap.size:=rfl;clear hB hp hok hblk hkid hstk hpl hcm hpc kc0 kc1;have⟨pa,hpa⟩:=ex_ (partsV a' α c);have⟨pb,hpb⟩:=ex_ (partsV b' α c);rw[<-hpa]at HIHa HPV hla;rw[<-hpb]at HIHb HPV hlb;clear hpa hpb
 go_enter func209,ntmps209
 go_upto_region 6 with(go_at_call 176;refine(zb3 _ _).mono ?_;rintro e_ _ ⟨rfl,rfl⟩;rw[HIS.o])
 go_region_held3 (λw'=>w'.cell? (p_ b 0)=some (.int .i64 20)/\w'.cell? (p_ b 1)=some (.slice (q_ gk ok) 2 cap)/\w'.cell? (p_ gk ok)=some u0/\w'.cell? (p_ gk (ok+1))=some u1) (first | with_reducible assumption | go_keep) (first
  | (go_at_call_of 209 u0;refine(HIHa.o w.drew (z_ (B_ _ _))).mono ?_;rintro e1 w1 ⟨v1,rfl,⟨ss1,h1_⟩,hb1_⟩;(have hz1:=hb1_.size);(have hb1:Below w w w1:=(z_ (B_ _ _)).trans (hb1_.mono (le_ _)));(have S1:=HGS.o _ hb1);obtain⟨x1a,x1c,rfl⟩:=η h1_.1;(have L1:=H_ h1_);(have HB1:=H_ hb1);clear h1_ hb1_ hb1)
  | (go_at_call_of 209 u1;refine(HIHb.o w1 HB1.o).mono ?_;rintro e2 w2 ⟨v2,rfl,⟨ss2,h2_⟩,hb2_⟩;(have hz2:=hb2_.size);(have hb2:Below w w w2:=HB1.o.trans (hb2_.mono (by omega)));(have S2:=HGS.o _ hb2);obtain⟨x2a,x2c,rfl⟩:=η h2_.1;(have L1':=H_ (L1.o.below hb2_ (le_ _)));(have L2:=H_ h2_);(have HB2:=H_ hb2);clear h2_ hb2_ hb2)
  | ((have g_:=L2);refine zve (by rfl) _ _ 119 (by rfl) 22 () 1 24 underlying119 zab (by rfl) (by decide) (by decide) (by rfl) L1'.o.1 (by rfl) L2.o.1.sl L2.o.cellsOne (by have k1:=L1'.o.2.1;have k2:=L2.o.2.1;omega) (by omega) ?_;intro v3 w3 ho3 hout3 hg3;(have hz3:=hout3.size);(have S3:=HGS.o w3 (ε HB2.o hout3 (by omega) (by omega)));(have H3:=H_ (za9 L1'.o hg3 ho3 rfl L2.o.2.1 (λi h1 h2=>(L2.o.2.2 i h1 h2).lower (by omega) hz3) (by omega)));(have HB3:=H_ (ε HB2.o hout3 (by omega) (by omega)));obtain⟨x3a,x3c,rfl⟩:=η ho3;clear ho3 hout3 hg3 g_))
 go_wp2_with fail
 refine(zgd (w:=w) (yss:=partsV (.bin true a' b') α c) (H3.o.lower (by omega) (le_ _)) HB3.o (by have k1:=L1'.o.2.1;have k2:=L2.o.2.1;simp;omega) HPV.o).mono ?_;rintro e w6 ⟨v6,rfl,⟨ss6,h6⟩,hb6⟩;have H6:=H_ (a_ h6 hb6);obtain⟨a6,c6,rfl⟩:=η h6.1;clear h6 hb6;go_wp2;go_ret;exact ι.mk _ rfl ⟨⟨ss6,H6.o.1⟩,H6.o.2⟩
def zlw(t:KT):Prop:=∀ (lo:Nat) (p:Value) (w:World),RT lo none w t p->t.size<=100000 ->
 Calls prog 195 #[p] w (ι λv w'=>Below w w w'/\γ w w' 3 w' v t.post)
theorem zl2(t:KT)(ih:∀ k∈t.kids,zlw k):zlw t:=by
 intro lo p w hp hsz;obtain⟨ps,⟨b,kv,rfl,_,_,hblk,a,cap,rfl,hpc,hcm,hkid⟩,hstk⟩:=hp.node;have hpl:=hstk.length;have HS:=H_ hstk;have HIH:=H_ ih;have HKD:=H_ hkid;have hkl:=t.kids_len;have HKP:=H_ (zsh t);obtain⟨c0,c1⟩:=hblk.c2;have hbs:=hblk.lt;have HP:Q_ (t.post=za7 t.kids t.kids.length++[t.root]):=H_ (zq5 t);have HSZ:=H_ (λk (h:k∈t.kids)=>J_ (cr_ (zkw h)) hsz);have⟨ks,hks⟩:=ex_ t.kids;rw[<-hks]at HS HIH HKP HP hpl hkl HSZ;clear hp hstk ih hkid hks;unfold maxLen at hcm;rw[hpl]at hpc c1
 go_enter func195,ntmps195
 go_wp2;go_loopw [3,11] (λv i wr=>∃ (k:Nat),k<=ks.length/\i=.int .i64 k/\Q_ (γ w wr 3 wr v (za7 ks k)/\Below w w wr)) (λ_ i _=>ks.length-(intOf i).toNat)
 case atStart=>exact⟨0,by omega,rfl,H_ ⟨by rw[zp0];exact Ω _ _ _ _ _,B_ _ _⟩⟩
 case round=>
  obtain⟨k,hk,rfl,HR⟩:=hrel;obtain⟨va,vc,rfl,hvc,hvm,_⟩:=θ HR.o.1;have hb:=HR.o.2;by_cases hlt:k<ks.length
  ·have hkp:k<ps.length:=by omega
   obtain⟨g,off,rfl,hg1,_,hg2,hg3⟩:=HKD.o k hkp;have⟨q,hq⟩:=ex_ (ps[k]);rw[<-hq]at hg3;have hck:wr.cell? (p_ g (off+k))=some q:=by rw[hb.cell (p:=p_ g (off+k)) hg2];exact hg3
   have hRT:=(HS.o.get k hkp hlt).below hb;rw[<-hq]at hRT;obtain⟨qa,rfl⟩:=hRT.isPtr;have HC:=H_ (HIH.o ks[k] (u_ hlt) lo _ wr hRT (HSZ.o _ (u_ hlt)));have HN:=H_ (zlr ks k hlt);have HL:=H_ (HKP.o (k+1));have HB:=H_ hb;have HO:=H_ HR.o.1;clear hg3 hRT hb HR hq;go_wp2_with fail
   refine HC.o.mono ?_;rintro e w1 ⟨v1,rfl,hb1,ho1⟩;have H1:=H_ ho1;replace HO:=H_ (HO.o.below hb1 (le_ _));replace HB:=HB.ts hb1;have hs1:=hb1.size;obtain⟨xa,xc,rfl,_⟩:=θ ho1;have hlen:=HL.o;rw[HN.o,n_]at hlen;clear hb1 ho1 HC;go_wp2_with (at_builtin;go_loud (refine Μ rfl _ _ 22 rfl 3 (0:Int) 1 8 underlying22 ω rfl (by decide) (by decide) rfl HO.o rfl H1.o.sl (Ι _) ?c1 ?c2 ?_))
   case c1=>omega
   case c2=>have:=HB.o.size;omega
   intro v2 w2 ho2 _ hout2 _
   have H2:Q_ (γ w w2 3 w2 v2 (za7 ks (k+1))):=by
    rw[HN.o];refine H_ ?_;unfold γ;rw[n_,zaa];exact ho2
   obtain⟨ya,yc,rfl,_⟩:=θ ho2;replace HB:=H_ (ε HB.o hout2 (le_ _) HB.o.size);clear ho2 hout2;go_wp2;go_roundw
   case rel=>exact⟨k+1,by omega,by go_num,H_ ⟨H2.o,HB.o⟩⟩
   case measure=>simp[intOf];omega
  ·obtain rfl:k=ks.length:=by omega
   have HO:=HR.o.1;have hcl:=HKP.o ks.length;generalize za7 ks ks.length=xs at HO hcl HP ⊢;have HOO:=H_ HO;have HB:=H_ hb;have hc0:wr.cell? (p_ b 0)=some (.int .i64 t.root):=by rw[hb.cell (p:=p_ b 0) hbs];exact c0
   clear HO hb HR c0 c1;go_wp2_with (at_builtin;go_loud (refine zap wr rfl _ _ 22 rfl 3 (0:Int) 1 8 underlying22 ω rfl (by decide) (by decide) rfl HOO.o 1 (δ [t.root]) rfl rfl (Ι _) rfl ?c1 ?c2 ?_))
   case c1=>omega
   case c2=>have:=HB.o.size;omega
   intro v2 w2 ho2 hout2 _
   have H2:Q_ (γ w w2 3 w2 v2 t.post):=by
    rw[HP.o];refine H_ ?_;unfold γ;rw[n_,zaa];exact ho2
   obtain⟨ya,yc,rfl,_⟩:=θ ho2;replace HB:=H_ (ε HB.o hout2 (le_ _) HB.o.size);clear ho2 hout2;go_wp2;go_ret;exact ι.mk _ rfl ⟨HB.o,H2.o⟩
theorem zg9:∀ t:KT,zlw t
 | .leaf n=>zl2 _ (λk h=>by cases h)
 | .star t=>by
  have ha:=zg9 t
  exact zl2 _ (λk h=>by
   simp only[KT.kids,k_]at h;subst h;exact ha)
 | .bin q a b=>by
  have ha:=zg9 a;have hb:=zg9 b
  exact zl2 _ (λk h=>by
   simp only[KT.kids,N_,cl_,bx_]at h;rcases h with rfl|rfl
   ·exact ha
   ·exact hb)
theorem zqh(v:Value)(e:List Int)(t:KT)(w:World)(hx:RdI w v e)(hm:e.length<=1000000)(ht:zar e []=some [t]):
  Calls prog 132 #[v] w (ι λp w'=>Below w w w'/\RT w none w' t p):=by
 obtain⟨a,cap,rfl,hcap,hcm,_⟩:=hx.open;have HX:=H_ hx;have HT:=H_ ht;clear hx ht
 go_enter func132,ntmps132
 go_wp2;go_loopw [3,10] (λv i wr=>∃ (k n:Nat),k<=e.length/\i=.int .i64 k/\Q_ (znf w w wr e k v n)) (λ_ i _=>e.length-(intOf i).toNat)
 case atStart=>exact⟨0,0,by omega,rfl,H_ ⟨[],[],Ω _ _ _ _ _,B_ _ _,by simp[zar],trivial,le_ _⟩⟩
 case round=>
  obtain⟨k,n,hk,rfl,HR⟩:=hrel;by_cases hlt:k<e.length
  ·obtain⟨xs,st,hown,hbel,hrun,hstk,hnk⟩:=HR.o
   obtain⟨st',hpush,hrun'⟩:=zlq HT.o k hlt hrun;obtain⟨hle,hlen'⟩:=zl6 hpush;have⟨s,hs⟩:=ex_ (e[k]);rw[<-hs]at hpush hle hlen';obtain⟨c,hc⟩:∃ c:Nat,Ο s=c:=⟨(Ο s).toNat,by have:=zev s;omega⟩;obtain⟨b,off,rfl,_,_,hbs,hcell⟩:=zc8 (HX.o.below hbel) k hlt;have HK:=H_ hbel;have HP:=H_ hpush;have HN:=H_ hrun';have HS:=H_ hstk;have hck:wr.cell? (p_ b (off+k))=some (.int .i64 s):=by rw[hs];exact hcell
   have HTK:Q_ (∀ wx,Calls prog 121 #[.int .i64 s] wx λe w'=>e=.returned (.int .i64 (c:Int))/\wx=w'):=H_ λwx=>by rw[<-hc];exact zhn s wx
   have hxl:xs.length=n:=by have:=hown.1.1;omega
   have hst:st.length=n:=by have:=hstk.length;simp at this;omega
   obtain⟨ys,ks,rfl,hks,hys⟩:∃ ys ks,xs=ys++ks/\ks.length=c/\ys.length+c=n:=⟨xs.take (n-c),xs.drop (n-c),(a1_ _ _).symm,by simp;omega,by simp;omega⟩;obtain⟨m,hm'⟩:∃ m,m=ys.length:=⟨_,rfl⟩;obtain rfl:n=m+c:=by omega
   have hptr:=hstk.ptrs;have HCK:=H_ (show (ks.length:Int)=Ο s by omega);have hle':Below w w wr:=hbel;have hsz:=hbel.size;clear hs hcell hrun hpush hrun' hle hc;have hown':=hown;obtain⟨⟨_,hv|⟨g,cap2,cur,rfl,hg1,hg2,hg3,hg4,_,_⟩⟩,hlo⟩:=hown'
   ·(obtain⟨rfl,hmc⟩:=hv);(obtain⟨rfl,rfl⟩:m=0/\c=0:=by omega);(obtain rfl:ys=[]:=A_ hm'.symm;obtain rfl:ks=[]:=A_ hks;have HSL:=H_ (Ω 1 wr wr 139 wr).sl;clear hm' hown hstk hle' HR hptr hks hys hxl hst;go_wp2_with (first | (go_at_call 121;refine(HTK.o _).mono ?_;rintro e w' ⟨rfl,rfl⟩) | (at_builtin;go_loud (refine Μ rfl _ _ 186 rfl 139 (.pointer none) 1 8 underlying186 zf2 rfl (by decide) (by decide) rfl (Ω 1 wr wr 139 wr) rfl HSL.o (by simp) ?c1 ?c2 ?_))));case c1=>omega
    case c2=>omega
    intro v1 w1 ho1 _ hout1 _;obtain⟨a1,c1,rfl,_⟩:=θ ho1;have HO1:=H_ ho1;have HOUT:=H_ hout1;have hs1:=hout1.size;have⟨w2,hw2⟩:=xa_ w1 #[.int .i64 s,.slice a1 0 c1] 188;have hsz2:w2=w1.heap.size+1:=by rw[hw2];simp
    (have HW2:=H_ hw2;clear ho1 hout1 hw2;go_wp2_with (first | rw[<-HW2.o] | (at_builtin;go_loud (refine zbn w2 rfl _ _ 186 rfl 139 (.pointer none) 1 8 underlying186 zf2 rfl (by decide) (by decide) rfl (Ω 1 w w 139 w2) 1 [.pointer (q_ w1 0)] (by rw[hsz2];rfl) rfl (by simp[Value.oneCell']) rfl ?c1 ?c2 ?_))));case c1=>omega
    case c2=>omega
    intro v3 w3 ho3 hgr3 hloc _;have HB3:=H_ (zkg (k:=k) (e:=e) (row:=none) (m:=0) HK.o hsz (λx hx=>by cases hx) HS.o HP.o HCK.o HN.o (by omega) HO1.o HOUT.o ho3 (by rw[<-HW2.o];exact hgr3) (by rw[<-HW2.o];simpa [hsz2,Value.ownBlock] using hloc));obtain⟨a3,c3,rfl,_⟩:=θ ho3;clear ho3 hgr3 hloc;go_wp2;go_roundw
    (case rel=>exact⟨k+1,1,by omega,by go_num,HB3⟩);case measure=>simp[intOf];omega
   ·(have hglt:=hlo g rfl);(have HO:=H_ hown;have HREST:=H_ (Own.rest hown hm'.symm c hks);have HFR:=H_ (zja hown hm'.symm (by simp));have HM':=H_ hm';clear hm' hown hlo hg2 hstk hle' HR;have⟨q1,q2,q3,q4,q5,q6⟩:(0:Int)<=m/\(m:Int)<=(m+c:Nat)/\(m:Int)<=cap2/\(m:Int)<=(m:Int)+c/\((m:Int)+c).toNat=m+c/\((m:Int)+c-m).toNat=c:=by omega);(have⟨q7,q8,q9,q10⟩:(m:Int)+c-c=m/\((m+c:Nat):Int)-c=m/\(m:Int)+c<=cap2/\m<=cap2:=by omega);unfold maxLen at hg4;have q11:m+c-m=c:=by omega
    (have HLT:=H_ (a_ hg1 hglt);have HPT:=H_ (λ(u:Value) (hu:u∈ks)=>hptr u (by simp[hu]));clear hptr hks hys hxl hst;have hcases:m=cap2\/¬cap2=m:=by omega);rcases hcases with rfl|hcm2
    all_goals (
     (have HR2:=HREST.o)
     first | rw[x_ rfl,be_] at HR2 | rw[m_ hcm2] at HR2
     (have HREST2:=H_ HR2;clear HR2;go_wp2_with (first | (go_at_call 121;refine(HTK.o _).mono ?_;rintro e w' ⟨rfl,rfl⟩) | (at_builtin;go_loud (refine Μ rfl _ _ 186 rfl 139 (.pointer none) 1 8 underlying186 zf2 rfl (by decide) (by decide) rfl (Ω 1 wr wr 139 wr) rfl HREST2.o HPT.o ?c1 ?c2 ?_))));case c1=>omega
     case c2=>omega
     all_goals (
      intro v1 w1 ho1 _ hout1 _;obtain⟨a1,c1,rfl,_⟩:=θ ho1;have HO1:=H_ ho1;have HOUT:=H_ hout1;have hs1:=hout1.size;have⟨w2,hw2⟩:=xa_ w1 #[.int .i64 s,.slice a1 c c1] 188;have HFR2:=H_ ((HFR.o.outside hout1 (.inl (le_ _))).alloc (.cells #[.int .i64 s,.slice a1 c c1] 188));rw[<-hw2]at HFR2;have hsz2:w2=w1.heap.size+1:=by rw[hw2];simp
      (have HW2:=H_ hw2;clear ho1 hout1 hw2;go_wp2_with (first | rw[<-HW2.o] | (at_builtin;go_loud (refine zbn w2 rfl _ _ 186 rfl 139 (.pointer none) 1 8 underlying186 zf2 rfl (by decide) (by decide) rfl HFR2.o 1 [.pointer (q_ w1 0)] (by rw[hsz2];rfl) rfl (by simp[Value.oneCell']) rfl ?c1 ?c2 ?_))));case c1=>omega
      case c2=>omega
      intro v3 w3 ho3 hgr3 hloc _;have HB3:=H_ (zkg (k:=k) (e:=e) (row:=some g) HK.o hsz (λx hx=>by injection hx with hx;subst hx;exact HLT.o) HS.o HP.o HCK.o HN.o (by omega) HO1.o HOUT.o ho3 (by rw[<-HW2.o];exact hgr3) (by rw[<-HW2.o];simpa [hsz2,Value.ownBlock] using hloc));obtain⟨a3,c3,rfl,_⟩:=θ ho3;clear ho3 hgr3 hloc;go_wp2;go_roundw
      (case rel=>exact⟨k+1,m+1,by omega,by go_num,HB3⟩);case measure=>simp[intOf];omega))
  ·obtain rfl:k=e.length:=by omega
   obtain⟨xs,st,hown,hbel,hrun,hstk,hnk⟩:=HR.o;rw[Y_,HT.o]at hrun;injection hrun with hrun;subst hrun;have hxl:xs.length=1:=by have:=hstk.length;simpa using this
   obtain⟨p,rfl⟩:∃ p,xs=[p]:=by
    match xs,hxl with
    | [p],_=>exact⟨p,rfl⟩
   obtain rfl:n=1:=by have:=hown.1.1;simpa using this.symm
   have hnode:RT w none wr t p:=zd5 ⟨le_ _,λi _ h1 h2=>⟨rfl,h1,by simp⟩⟩ hstk.1;obtain⟨a3,c3,rfl,h1,h2,_,h3⟩:=θ hown;obtain⟨g,rfl,_,_⟩:=h3 (by omega)
   have hck:wr.cell? (p_ g 0)=some p:=by
    (obtain⟨_,_,e1,_,_,_,_,h6⟩:=hown.sl;obtain⟨b,off,f1,_,_,_,f2⟩:=h6 0 (by simp);injection e1 with e1;subst e1;injection f1 with f1;injection f1 with f1 f1';subst f1 f1');simpa using f2
   obtain⟨pa,hpa⟩:=hnode.isPtr;have HQ:=H_ (a_ hbel hnode);clear hown hstk hnode HR hbel;subst hpa;go_wp2;go_ret;exact ι.mk _ rfl HQ.o
theorem zsi(t k:Nat):hb t k=t.testBit k:=by
 unfold hb;rw[br_,Nat.shiftRight_eq_div_pow];rfl
theorem LLs.lit(h:LLs lo w w v ss xss)(hs:γ lo w 3 w s ys)
  (ho:Own 1 lo w' 22 w' v' (ss.length+1) (ss++[s])) (hg:(w.alloc (.cells #[s] 22)).grownBy w' v.ownBlock):LLs lo w' w' v' (ss++[s]) (xss++[ys])/\β lo w w w':=by
 have hk:=ζ w (.cells #[s] 22);have hz:(w.alloc (.cells #[s] 22)).heap.size=w.heap.size+1:=μ _ _;have hz':=hg.size;refine⟨LLs.push (h.below hk (le_ _)) hg ho ((hs.below hk (le_ _)).lower (le_ _) (by omega)) (by omega),β.alloc (zb1 hg h.1.lt)⟩
def zga:=@LLs.lit
theorem z01(iha:zey a')(ihb:zey b'):zey (.bin false a' b'):=by
 intro lo ptr w α c hp hok hsz hα hc1 hc2 hB;obtain⟨ps,⟨b,kv,rfl,_,_,hblk,a,cap,rfl,hpc,hcm,hkid⟩,hstk⟩:=hp.node;have hpl:=hstk.length;simp only[KT.kids,I_,an_]at hpl
 obtain⟨u0,u1,rfl⟩:∃ u0 u1,ps=[u0,u1]:=by
  match ps,hpl with
  | [x,y],_=>exact⟨x,y,rfl⟩
 obtain⟨gk,ok,rfl,_,_,hgk,kc0⟩:=hkid 0 (by simp);obtain⟨gk',ok',e1,_,_,_,kc1⟩:=hkid 1 (by simp);injection e1 with e1;injection e1 with e1 e2;subst e1 e2;simp only[KT.size]at hsz;have hok2:a'.ok 0=true/\b'.ok 0=true:=by simpa [KT.ok] using hok
 have HSTK:=H_ hstk
 have hqs:∀ x∈partsV a' α c,x.length<=100000:=λx hx=>by
  have h:=hB (behV x b'.post) (by rw[<-znv,ordL_mem,E_];exact .inl (aa_.2 ⟨x,hx,rfl⟩));unfold behV at h
  split at h
  ·rename_i e;subst e;decide
  ·simp at h;omega
 have HIHa:Q_ (∀ w',Below w w w'->Calls prog 209 #[u0,.int .i64 α,.int .i64 c] w' (ι λv w2=>(∃ ss,LLs w'.heap.size w2.heap.size w2 v ss (partsV a' α c))/\Below w'.heap.size w' w2)):=H_ λw' hb=>iha lo u0 w' α c (zdz HSTK.o.1 hb) hok2.1 (by omega) hα hc1 hc2 hqs
 have HIHb:Q_ ((endsK a').testBit α=true->∀ w',Below w w w'->Calls prog 209 #[u1,.int .i64 α,.int .i64 c] w' (ι λv w2=>(∃ ss,LLs w'.heap.size w2.heap.size w2 v ss (partsV b' α c))/\Below w'.heap.size w' w2)):=H_ λhbit w' hb=>ihb lo u1 w' α c (zdz HSTK.o.2.1 hb) hok2.2 (by omega) hα hc1 hc2 (λx hx=>hB x (by rw[<-znv,ordL_mem,E_,hbit];exact .inr hx))
 have HGS:Q_ (∀ w':World,Below w w w'->w'.cell? (p_ b 0)=some (.int .i64 19)/\w'.cell? (p_ b 1)=some (.slice (q_ gk ok) 2 cap)/\w'.cell? (p_ gk ok)=some u0/\w'.cell? (p_ gk (ok+1))=some u1):=H_ λw' hb=>⟨(hblk.below hb hblk.lt).cell 0,(hblk.below hb hblk.lt).cell 1,(hb.cell (p:=p_ gk (ok+0)) hgk).trans kc0,(hb.cell (p:=p_ gk (ok+1)) hgk).trans kc1⟩
 have hla:=partsV_len hok2.1 (α:=α) hc1;have hlb:=partsV_len hok2.2 (α:=α) hc1;have HPV:=H_ (znv a' b' α c);have HIS:=H_ (show zal 19=false by decide);have HGD:=H_ (a_ hgk (a_ kc0 kc1));have HOK:=H_ hok2;obtain⟨S0,S1,S2,S3⟩:=HGS.o w (B_ _ _);have HQS:=H_ hqs;clear hB hqs hp hok hblk hkid hstk hpl hcm hpc kc0 kc1;have⟨pa,hpa⟩:=ex_ (partsV a' α c);have⟨pb,hpb⟩:=ex_ (partsV b' α c);rw[<-hpa]at HIHa HPV hla HQS;rw[<-hpb]at HIHb HPV hlb;clear hpa hpb
 go_enter func209,ntmps209
 go_wp2_with (go_at_call 176;refine(zb3 _ _).mono ?_;rintro e_ _ ⟨rfl,rfl⟩;rw[HIS.o])
 refine(HIHa.o w (B_ _ _)).mono ?_;rintro e1 w1 ⟨v1,rfl,⟨ss1,h1_⟩,hb1_⟩;have hz1:=hb1_.size;have HB1:=H_ hb1_;have hl1:=h1_.2.1;have L1:=H_ h1_.sl;obtain⟨x1a,x1c,rfl,hq1,hq2⟩:=h1_.sl.shape;unfold maxLen at hq2;clear h1_ hb1_ S0 S1 S2 S3;go_wp2;go_loopw [7,69] (λv i wr=>∃ (k:Nat) (ss:List Value),k<=pa.length/\i=.int .i64 k/\Q_ (LLs w1 wr wr v ss ((pa.take k).map λq=>behV q b'.post)/\Below w w wr/\Below w1 w1 wr)) (λ_ i _=>pa.length-(intOf i).toNat)
 case atStart=>exact⟨0,[],by omega,rfl,H_ ⟨zfu _ _ _,HB1.o,B_ _ _⟩⟩
 case round=>
  obtain⟨k,ss,hk,rfl,HQ⟩:=hrel;have hszr:=HQ.o.2.1.size;have hsz1:=HQ.o.2.2.size;obtain⟨s0,s1,s2,s3⟩:=HGS.o wr HQ.o.2.1;obtain⟨oa,oc,ho⟩:=η HQ.o.1.1;have HOL:=H_ HQ.o.1.2.1;have hol:ss.length<=pa.length:=by rw[HOL.o];simp;omega
  by_cases hlt:k<pa.length
  ·obtain⟨b5,off5,u5,rfl,_,_,_,hc5,hu5⟩:=(L1.o.below HQ.o.2.2 (le_ _)).get k hlt
   obtain⟨pa5,pc5,rfl,_,_⟩:=π hu5;have hlx:=HQS.o pa[k] (u_ hlt);have HU5:=H_ hu5;have HQ':=H_ HQ.o;clear hu5 HQ;subst ho;go_wp2_with fail
   refine(zg9 b' lo u1 wr (zdz HSTK.o.2.1 HQ'.o.2.1) (by omega)).mono ?_;rintro e2 w2 ⟨v2,rfl,hb2,ho2⟩;have hz2:=hb2.size;have HPL:=H_ b'.post_length;have hpl2:b'.post.length<=2000:=by rw[HPL.o];omega
   obtain⟨ya,yc,rfl⟩:=η ho2;have HB2:=H_ hb2;have HO2:=H_ ho2;clear hb2 ho2;go_wp2_with fail
   refine(zps _ _ _ _ _ _ pa[k] b'.post w2 (HU5.o.below HB2.o (by omega)) HO2.o.sl (by omega) (le_ _) (by omega)).mono ?_;rintro e3 w3 ⟨v3,rfl,hb3,ho3⟩;have hz3:=hb3.size;obtain⟨za,zc,rfl⟩:=η ho3;have HB3:=HB2.tr hb3 hz2;have HO3:=H_ ho3;have HL3:=H_ (HQ'.o.1.below HB3.o (le_ _));have hsz3:=HB3.o.size;clear hb3 ho3 HO2 HB2;go_wp2_with (at_builtin;go_loud (refine zbn w3 rfl _ _ 119 rfl 22 () 1 24 underlying119 zab rfl (by decide) (by decide) rfl HL3.o.1 1 [.slice za (behV pa[k] b'.post).length zc] rfl rfl (by intro u hu;simp only[k_] at hu;subst hu;rfl) rfl ?c1 ?c2 ?_))
   case c1=>omega
   case c2=>omega
   intro v4 w4 ho4 hg4 _ _
   have HQ5:Q_ (LLs w1 w4 w4 v4 (ss++[.slice za (behV pa[k] b'.post).length zc]) ((pa.take (k+1)).map λq=>behV q b'.post)/\Below w w w4/\Below w1 w1 w4):=by
    have hJ:=zga (HL3.o.lower (le_ _) hsz3) (HO3.o.lower (by omega) (le_ _)) ho4 hg4;refine H_ ⟨?_,ε (HQ'.o.2.1.trans (HB3.o.mono (by omega))) hJ.2 (by omega) (by omega),ε (HQ'.o.2.2.trans (HB3.o.mono (by omega))) hJ.2 (le_ _) (by omega)⟩;rw[F_ hlt,by_];exact hJ.1
   obtain⟨qa,qc,rfl⟩:=η ho4;clear ho4 hg4;go_wp2;go_roundw
   case rel=>exact⟨k+1,_,by omega,by go_num,HQ5⟩
   case measure=>simp[intOf];omega
  ·obtain rfl:k=pa.length:=by omega
   have HQ':=H_ HQ.o;clear HQ;subst ho;go_wp2_with fail
   refine(zg9 a' lo u0 wr (zdz HSTK.o.1 HQ'.o.2.1) (by omega)).mono ?_;rintro e2 w2 ⟨v2,rfl,hb2,ho2⟩;have hz2:=hb2.size;have HPL:=H_ a'.post_length;have hpl2:a'.post.length<=2000:=by rw[HPL.o];omega
   obtain⟨ya,yc,rfl⟩:=η ho2;have HB2:=H_ hb2;have HO2:=H_ ho2;clear hb2 ho2;go_wp2_with fail
   refine(zm9 _ _ _ a' w2 HO2.o.sl (le_ _) (by omega) HOK.o.1).mono ?_;rintro e3 w3 ⟨rfl,hb3⟩;have hz3:=hb3.size;have HB3:=HB2.tr hb3 hz2;clear hb3 HB2;go_wp2_with fail
   refine(zg0 (endsK a') α (zeg HOK.o.1) hα w3).mono ?_;rintro e4 _ ⟨rfl,rfl⟩
   have HL3:=H_ (show LLs w1 wr w3 (.slice oa ss oc) ss (pa.map λq=>behV q b'.post) from by
    (have h:=HQ'.o.1.below HB3.o (le_ _))
    rwa [Y_]at h)
   have HBB:=H_ (HQ'.o.2.1.trans (HB3.o.mono (by omega)));rw[zsi];cases hbit:(endsK a').testBit α with
   | false=>
    have HPV':=H_ (show ordL (pa.map λq=>behV q b'.post)=partsV (.bin false a' b') α c by
     have h:=HPV.o;rw[hbit,m_ (by decide),cx_]at h;exact h)
    clear hbit;go_wp2_with fail
    refine(zgd (w:=w) (yss:=partsV (.bin false a' b') α c) (HL3.o.lower (by omega) (by omega)) HBB.o (by omega) HPV'.o).mono ?_;rintro e w6 ⟨v6,rfl,⟨ss6,h6⟩,hb6⟩;have H6:=H_ (a_ h6 hb6);obtain⟨a6,c6,rfl⟩:=η h6.1;clear h6 hb6;go_wp2;go_ret;exact ι.mk _ rfl ⟨⟨ss6,H6.o.1⟩,H6.o.2⟩
   | true=>
    have HPV':=H_ (show ordL ((pa.map λq=>behV q b'.post)++pb)=partsV (.bin false a' b') α c by
     have h:=HPV.o;rw[hbit,x_ rfl]at h;exact h)
    (have HI:=H_ (HIHb.o hbit w3 HBB.o);obtain⟨s0,s1,s2,s3⟩:=HGS.o w3 HBB.o;clear hbit HIHb;go_wp2_with fail);refine HI.o.mono ?_;rintro e5 w5 ⟨v5,rfl,⟨ss5,h5_⟩,hb5⟩;have hz5:=hb5.size;obtain⟨x5a,x5c,rfl⟩:=η h5_.1;have hl5:ss5.length<=10000:=by have:=h5_.2.1;omega
    (have HL5:=H_ h5_;have HLX:=H_ (HL3.o.below hb5 (by omega));have HB5:=HBB.tr hb5 (by omega);clear h5_ hb5;go_wp2_with (at_builtin;go_loud (refine Μ rfl _ _ 119 rfl 22 () 1 24 underlying119 zab rfl (by decide) (by decide) rfl HLX.o.1 rfl HL5.o.1.sl HL5.o.cellsOne ?c1 ?c2 ?_)));case c1=>omega
    case c2=>omega
    intro v6 w6 ho6 hg6 hout6 _;have hz6:=hg6.size;have HB6:=H_ (ε HB5.o hout6 (by omega) (by omega));have H6:=H_ (za9 HLX.o hg6 ho6 rfl HL5.o.2.1 (λi h1 h2=>(HL5.o.2.2 i h1 h2).lower (by omega) hz6) (by omega));obtain⟨x6a,x6c,rfl⟩:=η ho6;clear ho6 hg6 hout6;go_wp2_with fail
    refine(zgd (w:=w) (yss:=partsV (.bin false a' b') α c) (H6.o.lower (by omega) (le_ _)) HB6.o (by simp;omega) HPV'.o).mono ?_;rintro e w7 ⟨v7,rfl,⟨ss7,h7⟩,hb7⟩;have H7:=H_ (a_ h7 hb7);obtain⟨a7,c7,rfl⟩:=η h7.1;clear h7 hb7;go_wp2;go_ret;exact ι.mk _ rfl ⟨⟨ss7,H7.o.1⟩,H7.o.2⟩
theorem zxv(iha:zey a'):zey (.star a'):=by
 intro lo ptr w α c hp hok hsz hα hc1 hc2 hB;obtain⟨ps,⟨b,kv,rfl,_,_,hblk,a,cap,rfl,hpc,hcm,hkid⟩,hstk⟩:=hp.node;have hpl:=hstk.length;simp only[KT.kids,I_,an_]at hpl
 obtain⟨u0,rfl⟩:∃ u0,ps=[u0]:=by
  match ps,hpl with
  | [x],_=>exact⟨x,rfl⟩
 obtain⟨gk,ok,rfl,_,_,hgk,kc0⟩:=hkid 0 (by simp);simp only[KT.size]at hsz;have hok2:a'.ok 0=true:=by simpa [KT.ok] using hok
 have HPT:=H_ hp;have HSTK:=H_ hstk
 have hqs:∀ x∈partsV a' α c,x.length<=100000:=λx hx=>by
  have h:=hB (behV x (KT.star a').post) (by rw[<-zrj,ordL_mem];exact aa_.2 ⟨x,hx,rfl⟩);unfold behV at h
  split at h
  ·rename_i e;subst e;decide
  ·simp at h;omega
 have HIHa:Q_ (∀ w',Below w w w'->Calls prog 209 #[u0,.int .i64 α,.int .i64 c] w' (ι λv w2=>(∃ ss,LLs w'.heap.size w2.heap.size w2 v ss (partsV a' α c))/\Below w'.heap.size w' w2)):=H_ λw' hb=>iha lo u0 w' α c (zdz HSTK.o.1 hb) hok2 (by omega) hα hc1 hc2 hqs
 have HGS:Q_ (∀ w':World,Below w w w'->w'.cell? (p_ b 0)=some (.int .i64 21)/\w'.cell? (p_ b 1)=some (.slice (q_ gk ok) 1 cap)/\w'.cell? (p_ gk ok)=some u0):=H_ λw' hb=>⟨(hblk.below hb hblk.lt).cell 0,(hblk.below hb hblk.lt).cell 1,(hb.cell (p:=p_ gk (ok+0)) hgk).trans kc0⟩
 have hla:=partsV_len hok2 (α:=α) hc1;have HPV:=H_ (zrj a' α c);have HIS:=H_ (show zal 21=false by decide);have HGD:=H_ (a_ hgk kc0);have HOK:=H_ hok2;obtain⟨S0,S1,S2⟩:=HGS.o w (B_ _ _);have HQS:=H_ hqs;clear hB hqs hp hok hblk hkid hstk hpl hcm hpc kc0;have⟨pa,hpa⟩:=ex_ (partsV a' α c);rw[<-hpa]at HIHa HPV hla HQS;clear hpa
 go_enter func209,ntmps209
 go_wp2_with (go_at_call 176;refine(zb3 _ _).mono ?_;rintro e_ _ ⟨rfl,rfl⟩;rw[HIS.o])
 refine(HIHa.o w (B_ _ _)).mono ?_;rintro e1 w1 ⟨v1,rfl,⟨ss1,h1_⟩,hb1_⟩;have hz1:=hb1_.size;have HB1:=H_ hb1_;have hl1:=h1_.2.1;have L1:=H_ h1_.sl;obtain⟨x1a,x1c,rfl,hq1,hq2⟩:=h1_.sl.shape;unfold maxLen at hq2;clear h1_ hb1_ S0 S1 S2;go_wp2;go_loopw [7,123] (λv i wr=>∃ (k:Nat) (ss:List Value),k<=pa.length/\i=.int .i64 k/\Q_ (LLs w1 wr wr v ss ((pa.take k).map λq=>behV q (KT.star a').post)/\Below w w wr/\Below w1 w1 wr)) (λ_ i _=>pa.length-(intOf i).toNat)
 case atStart=>exact⟨0,[],by omega,rfl,H_ ⟨zfu _ _ _,HB1.o,B_ _ _⟩⟩
 case round=>
  obtain⟨k,ss,hk,rfl,HQ⟩:=hrel;have hszr:=HQ.o.2.1.size;have hsz1:=HQ.o.2.2.size;obtain⟨s0,s1,s2⟩:=HGS.o wr HQ.o.2.1;obtain⟨oa,oc,ho⟩:=η HQ.o.1.1;have HOL:=H_ HQ.o.1.2.1;have hol:ss.length<=pa.length:=by rw[HOL.o];simp;omega
  by_cases hlt:k<pa.length
  ·obtain⟨b5,off5,u5,rfl,_,_,_,hc5,hu5⟩:=(L1.o.below HQ.o.2.2 (le_ _)).get k hlt
   obtain⟨pa5,pc5,rfl,_,_⟩:=π hu5;have hlx:=HQS.o pa[k] (u_ hlt);have HU5:=H_ hu5;have HQ':=H_ HQ.o;clear hu5 HQ;subst ho;go_wp2_with fail
   refine(zg9 (.star a') lo (.pointer (q_ b 0)) wr (zdz HPT.o HQ'.o.2.1) (by simp only[KT.size];omega)).mono ?_;rintro e2 w2 ⟨v2,rfl,hb2,ho2⟩;have hz2:=hb2.size;have HPL:=H_ (KT.star a').post_length;have hpl2:(KT.star a').post.length<=2001:=by rw[HPL.o];simp only[KT.size];omega
   obtain⟨ya,yc,rfl⟩:=η ho2;have HB2:=H_ hb2;have HO2:=H_ ho2;clear hb2 ho2;go_wp2_with fail
   refine(zps _ _ _ _ _ _ pa[k] (KT.star a').post w2 (HU5.o.below HB2.o (by omega)) HO2.o.sl (by omega) (le_ _) (by omega)).mono ?_;rintro e3 w3 ⟨v3,rfl,hb3,ho3⟩;have hz3:=hb3.size;obtain⟨za,zc,rfl⟩:=η ho3;have HB3:=HB2.tr hb3 hz2;have HO3:=H_ ho3;have HL3:=H_ (HQ'.o.1.below HB3.o (le_ _));have hsz3:=HB3.o.size;clear hb3 ho3 HO2 HB2;go_wp2_with (at_builtin;go_loud (refine zbn w3 rfl _ _ 119 rfl 22 () 1 24 underlying119 zab rfl (by decide) (by decide) rfl HL3.o.1 1 [.slice za (behV pa[k] (KT.star a').post).length zc] rfl rfl (by intro u hu;simp only[k_] at hu;subst hu;rfl) rfl ?c1 ?c2 ?_))
   case c1=>omega
   case c2=>omega
   intro v4 w4 ho4 hg4 _ _
   have HQ5:Q_ (LLs w1 w4 w4 v4 (ss++[.slice za (behV pa[k] (KT.star a').post).length zc]) ((pa.take (k+1)).map λq=>behV q (KT.star a').post)/\Below w w w4/\Below w1 w1 w4):=by
    have hJ:=zga (HL3.o.lower (le_ _) hsz3) (HO3.o.lower (by omega) (le_ _)) ho4 hg4;refine H_ ⟨?_,ε (HQ'.o.2.1.trans (HB3.o.mono (by omega))) hJ.2 (by omega) (by omega),ε (HQ'.o.2.2.trans (HB3.o.mono (by omega))) hJ.2 (le_ _) (by omega)⟩;rw[F_ hlt,by_];exact hJ.1
   obtain⟨qa,qc,rfl⟩:=η ho4;clear ho4 hg4;go_wp2;go_roundw
   case rel=>exact⟨k+1,_,by omega,by go_num,HQ5⟩
   case measure=>simp[intOf];omega
  ·obtain rfl:k=pa.length:=by omega
   have HQ':=H_ HQ.o;clear HQ;subst ho
   have HL3:=H_ (show LLs w1 wr wr (.slice oa ss oc) ss (pa.map λq=>behV q (KT.star a').post) from by
    (have h:=HQ'.o.1)
    rwa [Y_]at h)
   go_wp2_with fail
   refine(zgd (w:=w) (yss:=partsV (.star a') α c) (HL3.o.lower (by omega) (by omega)) HQ'.o.2.1 (by omega) HPV.o).mono ?_;rintro e w6 ⟨v6,rfl,⟨ss6,h6⟩,hb6⟩;have H6:=H_ (a_ h6 hb6);obtain⟨a6,c6,rfl⟩:=η h6.1;clear h6 hb6;go_wp2;go_ret;exact ι.mk _ rfl ⟨⟨ss6,H6.o.1⟩,H6.o.2⟩
theorem zgk:∀ t:KT,zey t
 | .leaf n=>zx2 n
 | .bin true a b=>zv6 (zgk a) (zgk b)
 | .bin false a b=>z01 (zgk a) (zgk b)
 | .star a=>zxv (zgk a)
theorem z1d(lo hi:Nat)(v c:Value)(xss:List (List Int))(p:List Int->Bool)(w:World)(hx:zbi lo hi w v xss)(hh:hi<=w)(hm:xss.length<=1048576)
  (hf:∀ i (h:i<xss.length) u w',Below w w w'->SlI lo hi w' u xss[i]->Calls prog 236 #[u,c] w' λe w''=>e=.returned (.bool (p xss[i]))/\Below w' w' w'') :
  c_ 235 #[v,.func (.func 236) #[] #[c]] w (.int .i64 (zd3 p xss)):=by
 have HF:=H_ hf;have HX:=H_ hx;obtain⟨a,cap,rfl,hcap,hcm⟩:=hx.shape;unfold maxLen at hcm;clear hx hf
 go_enter func235,ntmps235
 go_wp2;go_loopw [8] (λi wr=>∃ j:Nat,j<=xss.length/\i=.int .i64 j/\Q_ (Below w w wr/\∀ n,n<j->∀ h:n<xss.length,p xss[n]=false)) (λi _=>xss.length-(intOf i).toNat)
 case atStart=>exact⟨0,by omega,rfl,H_ ⟨B_ _ _,λn h=>by omega⟩⟩
 case round=>
  obtain⟨j,hj,rfl,HQ⟩:=hrel;by_cases hlt:j<xss.length
  ·obtain⟨b,off,u,rfl,_,_,_,hcell,hu⟩:=(HX.o.below HQ.o.1 hh).get j hlt
   have HC:=H_ (HF.o j hlt u wr HQ.o.1 hu);clear hu;go_wp2_with fail
   refine HC.o.mono ?_;rintro e w1 ⟨rfl,hb⟩;have HB:=H_ (HQ.o.1.trans (hb.mono HQ.o.1.size));clear hb HC;cases hp:p xss[j]
   ·have HN:Q_ (∀ n,n<j+1->∀ h:n<xss.length,p xss[n]=false):=H_ λn hn h=>by
     by_cases e:n=j
     ·subst e;exact hp
     ·exact HQ.o.2 n (by omega) h
    clear hp;go_wp2;go_roundw
    (case rel=>exact⟨j+1,by omega,by go_num,H_ ⟨HB.o,HN.o⟩⟩);case measure=>simp[intOf];omega
   ·(have HI:=H_ (zsq p xss j hlt hp HQ.o.2));clear hp;go_wp2;go_ret;exact⟨zdh HI.o.symm,HB.o⟩
  ·have HI:=H_ (zt2 p xss λn h=>HQ.o.2 n (by omega) h)
   go_wp2;go_ret;exact⟨zdh HI.o.symm,HQ.o.1⟩
theorem z1x(lo hi lo' hi' g:Nat)(p u:Value)(x xs:List Int)(w:World)(hk:Blk g (.cells #[p] 22) w)(hp:SlI lo' hi' w p x)(hu:SlI lo hi w u xs):
  c_ 236 #[u,.pointer (q_ g 0)] w (.bool (eqL x xs)):=by
 have c0:=hk.cell 0;have HC:=H_ (zge lo' hi' lo hi p u x xs w hp hu);obtain⟨pa,pc,rfl,_,_⟩:=π hp;clear hk hu hp
 go_enter func236,ntmps236
 go_wp2_with fail
 refine HC.o.mono ?_;rintro e w1 ⟨rfl,hb⟩;have HB:=H_ hb;clear hb HC;go_wp2;go_ret;exact⟨rfl,HB.o⟩
theorem zoz(lo hi lo' hi':Nat)(v p:Value)(xss:List (List Int))(x:List Int)(w:World)(hx:zbi lo hi w v xss)(hp:SlI lo' hi' w p x)(hh:hi<=w)(hh':hi'<=w)(hm:xss.length<=1048576):
  c_ 210 #[v,p] w (.int .i64 (zd3 (eqL x) xss)):=by
 obtain⟨pa,pc,rfl,_,_⟩:=π hp;obtain⟨xa,xc,rfl,_,_⟩:=hx.shape;have HX:=H_ hx;have HP:=H_ hp;have HBA:=H_ ((B_ w w).alloc (le_ _) (.cells #[.slice pa x pc] 22));have HK:=H_ (κ w (.cells #[.slice pa x pc] 22));clear hx hp
 go_enter func210,ntmps210
 go_wp2_with fail
 refine(z1d lo hi _ _ xss (eqL x) _ (HX.o.below HBA.o hh) (by simp;omega) hm λi h u w' hb hu=>z1x lo hi lo' hi' w _ u x xss[i] w' (HK.o.below hb (by simp)) (HP.o.below (HBA.o.trans (hb.mono (by simp))) hh') hu).mono ?_;rintro e w2 ⟨rfl,hb⟩;have HB:=H_ (HBA.o.trans (hb.mono (by simp)));clear hb;go_wp2;go_ret;exact⟨rfl,HB.o⟩
theorem γ.typed(hO:Own 1 lo' hi' 22 w v n xs)(hg:w.grownBy w' v.ownBlock)(hu:γ lo hi 3 w u ys):γ lo hi 3 w' u ys:=by
 refine⟨hu.1.kept hg ?_,hu.2⟩;cases hub:u.ownBlock with
 | none=>exact .inl rfl
 | some k=>
  right
  intro e;rcases hu.1.2 with⟨rfl,_⟩|⟨g',cap',cur',rfl,_,hg',_⟩
  ·cases hub
  ·rcases hO.1.2 with⟨rfl,_⟩|⟨gO,capO,curO,rfl,_,hgO,_⟩
   ·cases e
   ·simp only[Value.ownBlock,ar_]at hub e
    rw[hub,e]at hg';rw[hg']at hgO;injection hgO with hgO;injection hgO with _ h2 _;exact absurd h2 (by decide)
theorem LLs.far(h:LLs lo hi w pv ss xss)(hO:Own 1 lo' hi' 22 w v n xs)(hg:w.grownBy w' v.ownBlock)
  (hd:pv.ownBlock=none\/pv.ownBlock≠v.ownBlock):LLs lo hi w' pv ss xss:=
 ⟨⟨h.1.1.kept hg hd,h.1.2⟩,h.2.1,λi h1 h2=>γ.typed hO hg (h.2.2 i h1 h2)⟩
theorem LLs.one(hs:γ lo w 3 w s ys)(hl:lo<=w):
  LLs lo (w+1) (w.alloc (.cells #[s] 22)) (.slice (q_ w 0) 1 1) [s] [ys]:=by
 have h:=ς 1 22 w [s] 1 (by omega) rfl;refine⟨h.wide2 hl (le_ _),rfl,λi h1 h2=>?_⟩;simp only[cs_]at h1;obtain rfl:i=0:=by omega
 exact(hs.below (ζ _ _) (le_ _)).lower (le_ _) (by omega)
structure AP(w0 w:World)(v p:Value)(ss:List Value)(o:List (List Int))(t:KT):Prop where
 rows:LLs w0 w w v ss o
 below:Below w0 w0 w
 tree:RT w0 v.ownBlock w t p
theorem AP.free {o:List (List Int)}(h:AP w0 w v p ss o t):RT w0 none w t p:=
 zd5 ⟨le_ _,λk h0 h1 h2=>⟨rfl,h1,by simp⟩⟩ h.tree
theorem AP.go {o:List (List Int)}(h:AP w0 w v p ss o t)(hb:Below w w w'):AP w0 w' v p ss o t:=
 ⟨(h.rows.below hb (le_ _)).lower (le_ _) hb.size,h.below.trans (hb.mono h.below.size),h.tree.below hb⟩
theorem AP.push {o:List (List Int)}(h:AP w0 w v p ss o t)(hs:γ w0 w 3 w s ys)
  (ho:Own 1 w0 w' 22 w' v' (ss.length+1) (ss++[s])) (hg:(w.alloc (.cells #[s] 22)).grownBy w' v.ownBlock) (hl:v'.ownBlock=v.ownBlock\/v'.ownBlock=some (w.alloc (.cells #[s] 22)).heap.size) :
  AP w0 w' v' p (ss++[s]) (o++[ys]) t:=by
 have hJ:=zga h.rows hs ho hg;have hz:(w.alloc (.cells #[s] 22)).heap.size=w.heap.size+1:=μ _ _;have hz':=hg.size;refine⟨hJ.1,ε h.below hJ.2 (le_ _) h.below.size,?_⟩;refine zd5 ⟨by omega,λk h0 h1 h2=>⟨?_,h1,?_⟩⟩ (h.tree.below (ζ w (.cells #[s] 22)))
 ·exact hg.block k h0 h2
 ·rcases hl with e|e
  ·rw[e];exact h2
  ·rw[e];simp;omega
theorem AP.pushFar {sp:List Value} {o ps:List (List Int)}(h:AP w0 w v p ss o t)(hp:LLs lo hi w pv sp ps)(hh:hi<=w)(hd:pv.ownBlock=none\/pv.ownBlock≠v.ownBlock)
  (hg:(w.alloc (.cells #[s] 22)).grownBy w' v.ownBlock) (hl:v'.ownBlock=v.ownBlock\/v'.ownBlock=some (w.alloc (.cells #[s] 22)).heap.size) :
  LLs lo hi w' pv sp ps/\(pv.ownBlock=none\/pv.ownBlock≠v'.ownBlock):=by
 have hk:=ζ w (.cells #[s] 22);refine⟨LLs.far (hp.below hk hh) (h.rows.1.below hk (le_ _)) hg hd,?_⟩;rcases hl with e|e
 ·rw[e];exact hd
 ·rw[e]
  cases hb:pv.ownBlock with
  | none=>exact .inl rfl
  | some g=>
   right
   have:=(hp.1.1.lt g hb).2;have hz:(w.alloc (.cells #[s] 22)).heap.size=w.heap.size+1:=μ _ _;simp;omega
theorem LLs.at {a:Option Addr}(h:LLs lo hi w (.slice a n cap) ss xss)(i:Nat)(h1:i<ss.length)(h2:i<xss.length):
  ∃ g,a=some ⟨g,0,none⟩/\lo<=g/\g<hi/\g<w.heap.size/\w.cell? (p_ g i)=some ss[i]/\γ lo hi 3 w ss[i] xss[i]:=by
 rcases h.1.1.2 with⟨e,h0⟩|⟨g,cap',cur,e,hb,hg,rest⟩
 ·simp at e
  have:=h.1.1.1;simp[h0]at h1
 ·injection e with e1 e2 e3
  subst e1;have hl:=h.1.lt g rfl;refine⟨g,rfl,hl.1,hl.2,(L_.1 hg).1,?_,h.2.2 i h1 h2⟩;have:=h.1.1.cells (g:=g) rfl i ss[i] (l_ h1)
  rwa [a5_,U_]at this
theorem zvz(x:List Int)(o:List (List Int)):decide (zd3 (eqL x) o<0)=!decide (x∈o):=by
 have h:=zxu (eqL x) o
 have h2:(o.any (eqL x))=decide (x∈o):=by
  rw[cm_,List.any_eq_true,t_]
  constructor
  ·rintro⟨y,h1,h2⟩
   rw[zed,t_]at h2;rw[h2];exact h1
  ·intro h;exact⟨x,h,zhu x⟩
 rw[<-h2,<-h,<-decide_not]
 congr 1
 simp
theorem z0s(lo hi:Nat)(v:Value)(t0:KT)(w:World)(hx:SlI lo hi w v t0.post)(hh:hi<=w)(hok:t0.ok 0=true)(hsz:t0.size<=40):
    Calls prog 208 #[v] w (ι λv w'=>(∃ ss,LLs w w' w' v ss (allV t0.post))/\Below w w w'):=by
  have HX:=H_ hx;obtain⟨a,cap,rfl,hcap,hcm⟩:=π hx;have HA0:=H_ (AllI.one (P:=Cl t0) (t:=t0) (au_ ..));have HK:=H_ (Cl.kept hok);have HOK:=H_ hok;have HPL:=H_ t0.post_length;have hpl:t0.post.length<=40:=by rw[HPL.o];exact hsz
  clear hx
  go_enter func208,ntmps208
  go_wp2_with fail
  refine(zdo _ _ _ _ _ HX.o (by omega)).mono ?_;rintro e1 w1 ⟨v1,rfl,hb1,ho1⟩;have hz1:=hb1.size;have hH:=LLs.one ho1 hz1;have H1:=H_ hH;have HB1:=H_ (hb1.alloc hz1 (.cells #[v1] 22));obtain⟨oa,oc,rfl⟩:=η ho1;clear hb1 ho1 hH;go_wp2;go_loopw [3,4] (λv i wr=>∃ (k:Nat) (ss:List Value) (o:List (List Int)),k<=ss.length/\ss.length<=41/\i=.int .i64 k/\Q_ (LLs w wr wr v ss o/\Below w w wr/\allGo (60-k) k o=allV t0.post/\AllI (Cl t0) o)) (λ_ i _=>60-(intOf i).toNat)
  case atStart=>exact⟨0,[_],[t0.post],by simp,by simp,rfl,H_ ⟨H1.o.lower (le_ _) (by simp),HB1.o,rfl,HA0.o⟩⟩
  case round=>
    obtain⟨k,ss,o,hk,h41,rfl,HQ⟩:=hrel;have hszr:=HQ.o.2.1.size;obtain⟨oa,oc,rfl⟩:=η HQ.o.1.1;have HOL:=H_ HQ.o.1.2.1;by_cases hlt:k<ss.length
    · have hko:k<o.length:=by rw[<-HOL.o];exact hlt
      (obtain⟨b5,off5,u5,rfl,_,_,_,hc5,hu5⟩:=HQ.o.1.sl.get k hko;have HU5:=H_ hu5;have HQ':=H_ HQ.o;have HT:=H_ (AllI.tree HK.o HQ'.o.2.2.2 hko);have⟨t,ht⟩:=ex_ (Τ (o.getD k []));rw[<-ht]at HT;have HTS:=H_ (Cl.size HT.o.1 hsz);have HTO:=H_ (HK.o.ok HT.o.1);have HOT:=H_ (show o[k]=t.post from by rw[HT.o.2,List.getD,l_ hko];rfl);obtain⟨pa5,pc5,rfl,_,_⟩:=π hu5;clear hu5 HQ;go_wp2_with fail);refine(zqh _ o[k] t wr (zd0 HU5.o (le_ _)) (by rw[HOT.o,t.post_length];have:=HTS.o;omega) (by rw[HOT.o];exact zem 0 t HTO.o [])).mono ?_;rintro e2 w2 ⟨p2,rfl,hb2,hrt2⟩;have hz2:=hb2.size;obtain⟨pp2,rfl⟩:=hrt2.isPtr
      have HAP:Q_ (AP w w2 (.slice (q_ b5 off5) ss oc) (.pointer pp2) ss (rowL o t 0) t):=H_ ⟨(HQ'.o.1.below hb2 (le_ _)).lower (le_ _) hz2,HQ'.o.2.1.trans (hb2.mono hszr),zd5 ⟨le_ _,λj h0 h1 h2=>⟨rfl,by omega,λe=>by
        have:=(HQ'.o.1.1.1.lt j e.symm).2;omega⟩⟩ hrt2⟩
      (have HRI:=H_ (λm (hm:m<=12)=>AllI.row HK.o HQ'.o.2.2.2 HT.o.1 hm);have HRL:=H_ (λm (hm:m<=12)=>(HRI.o m hm).len hsz))
      have HRN:=H_ (show allGo (60-(k+1)) (k+1) (rowL o t 12)=allV t0.post from by
        have h:=HQ'.o.2.2.1;rw[show 60-k=(60-(k+1))+1 by omega,allGo_more (by rw[<-HOL.o];exact hlt),<-ht]at h;exact h)
      (have HT1:=H_ HT.o.1;have HRP:=H_ (rowL_pre o t 12);clear hb2 hrt2 hc5 HU5 HOT ht HQ' HT;go_wp2;go_loopw [3,24] (λv i wx=>∃ (α:Nat) (ss2:List Value),α<=4/\ss2.length<=41/\i=.int .i64 α/\Q_ (AP w wx v (.pointer pp2) ss2 (rowL o t (3*α)) t)) (λ_ i _=>4-(intOf i).toNat));case atStart=>exact⟨0,ss,by omega,by omega,rfl,HAP⟩
      case round=>
        clear HAP;obtain⟨α,ss2,hα,h41',rfl,HA⟩:=hrel;by_cases hlt2:α<4
        · have hd2:decide ((α:Int)<4)=true:=by simp;omega
          go_wp2;go_loopw [3,7] (λv i wx=>∃ (j:Nat) (ss2:List Value),j<=3/\ss2.length<=41/\i=.int .i64 (16+(j:Int))/\Q_ (AP w wx v (.pointer pp2) ss2 (rowL o t (3*α+j)) t)) (λ_ i _=>19-(intOf i).toNat)
          case atStart=>exact⟨0,ss2,by omega,by omega,rfl,HA⟩
          case round=>
            clear HA
            rename World=>wx
            obtain⟨j,ss3,hj,h41'',rfl,HA⟩:=hrel;by_cases hlt3:j<3
            · have hd3:decide ((16:Int)+(j:Int)<=18)=true:=by simp;omega
              go_wp2_with fail
              refine(zgk t _ _ _ α (16+(j:Int)) HA.o.free HTO.o (by have:=HTS.o;omega) hlt2 (by omega) (by omega) (λx hx=>?_)).mono ?_
              · obtain⟨q, hq1, hq2⟩ := (HRI.o (3 * α + j + 1) (by omega)).mem x (rowL_mem.2 (.inr ⟨3 * α + j, by omega, by
                  unfold moveP;rw[show (3*α+j)/3=α by omega,show (3*α+j)%3=j by omega];exact hx⟩))
                rw[<-hq2,q.post_length];have:=Cl.size hq1 hsz;omega
              rintro e3 w3 ⟨v3,rfl,⟨sp,h3_⟩,hb3_⟩;have hz3:=hb3_.size;have hzx:=HA.o.below.size;have hpn:=partsV_len HTO.o (α:=α) (c:=16+(j:Int)) (by omega);have hts:=HTS.o
              have HMP:=H_ (show moveP t (3*α+j)=partsV t α (16+(j:Int)) by
                unfold moveP;rw[show (3*α+j)/3=α by omega,show (3*α+j)%3=j by omega])
              (have⟨ps,hps⟩:=ex_ (partsV t α (16+(j:Int)));rw[<-hps]at h3_ HMP hpn;clear hps;have hsl:=h3_.2.1;have hsl2:sp.length<=100000:=by omega);(have HSL:=H_ hsl;have HA3:=H_ (HA.o.go hb3_);have H3:=H_ h3_;obtain⟨pva,pvc,rfl⟩:=η h3_.1;obtain⟨ova,ovc,rfl⟩:=η HA.o.rows.1)
              have HNE:Q_ ((Value.slice pva sp pvc).ownBlock=none\/(Value.slice pva sp pvc).ownBlock≠(Value.slice ova ss3 ovc).ownBlock):=H_ (by
                cases hb:(Value.slice pva sp pvc).ownBlock with
                | none=>exact .inl rfl
                | some g=>
                  right
                  intro e;have h1:=(h3_.1.1.lt g hb).1;have h2:=(HA.o.rows.1.1.lt g e.symm).2;omega)
              (have HNI:=H_ (show ∀ n,AllI (Cl t0) (newL (rowL o t (3*α+j)) (ps.take n)) from λn=>AllI.new (HRI.o _ (by omega)) λx hx=>moveP_kept HK.o HT1.o (m:=3*α+j) (by omega) x (by rw[HMP.o];exact a7_ hx));clear h3_ hb3_ hsl hpn HA;go_wp2;go_loopw [3,36] (λv i wy=>∃ (n:Nat) (ss4:List Value),n<=sp.length/\ss4.length<=41/\i=.int .i64 n/\Q_ (AP w wy v (.pointer pp2) ss4 (newL (rowL o t (3*α+j)) (ps.take n)) t/\LLs wx w3 wy (.slice pva sp pvc) sp ps/\((Value.slice pva sp pvc).ownBlock=none\/(Value.slice pva sp pvc).ownBlock≠v.ownBlock)/\w3<=wy.heap.size)) (λ_ i _=>sp.length-(intOf i).toNat));case atStart=>exact⟨0,ss3,by omega,by omega,rfl,H_ ⟨HA3.o,H3.o,HNE.o,le_ _⟩⟩
              case round=>
                clear HA3 H3 HNE
                rename World=>wy
                obtain⟨n,ss4,hn,h41_,rfl,HA⟩:=hrel;obtain⟨qva,qvc,rfl⟩:=η HA.o.1.rows.1;by_cases hlt4:n<sp.length
                · have hnp:n<ps.length:=by rw[<-HSL.o];exact hlt4
                  (have hzy:=HA.o.2.2.2;have HNX:=H_ (newL_snoc ps[n] (ps.take n) (rowL o t (3*α+j)));have HN1:=H_ (HNI.o (n+1));rw[F_ hnp,HNX.o]at HN1;obtain⟨g6,rfl,_,_,hg6,hc6,hu6⟩:=HA.o.2.1.at n hlt4 hnp;have HU6:=H_ hu6;obtain⟨pa6,pc6,hs6⟩:=η hu6;rw[hs6]at hc6;have HS6:=H_ hs6;clear hs6 hu6;go_wp2_with fail);refine(zoz _ _ _ _ _ _ _ ps[n] wy HA.o.1.rows.sl (by rw[<-HS6.o];exact HU6.o.sl) (le_ _) (by omega) (by rw[<-HA.o.1.rows.2.1];omega)).mono ?_;rintro e7 w7 ⟨rfl,hb7⟩;have hz7:=hb7.size;have HA7:=H_ (HA.o.1.go hb7);have HP7:=H_ (HA.o.2.1.below hb7 (by omega));have HU7:=H_ (HU6.o.below hb7 (by omega));have HNE:=H_ HA.o.2.2.1;have HNG:=H_ (zvz ps[n] (newL (rowL o t (3*α+j)) (ps.take n)));clear hb7 HA;have⟨z,hzz⟩:=ex_ (zd3 (eqL ps[n]) (newL (rowL o t (3*α+j)) (ps.take n)));rw[<-hzz]at HNG ⊢;clear hzz;by_cases hmem:ps[n]∈newL (rowL o t (3*α+j)) (ps.take n)
                  · have hz0:¬z<0:=by have h:=HNG.o;simp only[hmem,decide_true,Bool.not_true,ea_] at h;exact h
                    (have HE:Q_ (newL (rowL o t (3*α+j)) (ps.take (n+1))=newL (rowL o t (3*α+j)) (ps.take n)):=H_ (by rw[F_ hnp,HNX.o,x_ hmem]);have hc7:decide (z<0)=false:=by simp;omega);clear hmem HNG HNX HN1;go_wp2;go_roundw
                    (case rel=>exact⟨n+1,ss4,by omega,by omega,by go_num,H_ ⟨by rw[HE.o];exact HA7.o,HP7.o,HNE.o,by omega⟩⟩);case measure=>simp[intOf];omega
                  · have hz0:z<0:=by have h:=HNG.o;simp only[hmem,decide_false,Bool.not_false,t_] at h;exact h
                    (have HE:Q_ (newL (rowL o t (3*α+j)) (ps.take (n+1))=newL (rowL o t (3*α+j)) (ps.take n)++[ps[n]]):=H_ (by rw[F_ hnp,HNX.o,m_ hmem]);rw[m_ hmem]at HN1;have hc7:decide (z<0)=true:=by simp;omega);clear hmem HNG HNX;go_wp2_with (at_builtin;go_loud (refine zbn w7 rfl _ _ 119 rfl 22 () 1 24 underlying119 zab rfl (by decide) (by decide) rfl HA7.o.rows.1 1 [.slice pa6 ps[n].length pc6] rfl rfl (by intro u hu;simp only[k_] at hu;subst hu;rfl) rfl ?c1 ?c2 ?_))
                    case c1=>omega
                    case c2=>exact HA7.o.below.size
                    intro v8 w8 ho8 hg8 hl8 _;replace hl8:v8.ownBlock=(Value.slice qva ss4 qvc).ownBlock\/v8.ownBlock=some (w7.alloc (.cells #[.slice pa6 ps[n].length pc6] 22)).heap.size:=by rw[μ];exact hl8
                    (have HA8:Q_ (AP w w8 v8 (.pointer pp2) (ss4++[.slice pa6 ps[n].length pc6]) (newL (rowL o t (3*α+j)) (ps.take n)++[ps[n]]) t):=H_ (AP.push HA7.o (by rw[<-HS6.o];exact HU7.o.lower (by omega) (by omega)) ho8 hg8 hl8);have HF8:=H_ (AP.pushFar HA7.o HP7.o (by omega) HNE.o hg8 hl8);have hz8:=hg8.size;have hz8':(w7.alloc (.cells #[.slice pa6 ps[n].length pc6] 22)).heap.size=w7.heap.size+1:=μ _ _;have hl41:(ss4++[Value.slice pa6 ps[n].length pc6]).length<=41:=by rw[HA8.o.rows.2.1];exact HN1.o.len hsz);(have HL41:=H_ hl41;obtain⟨y8,yc8,rfl⟩:=η ho8;clear ho8 hg8 hl8 hl41;go_wp2;go_roundw);(case rel=>exact⟨n+1,_,by omega,HL41.o,by go_num,H_ ⟨by rw[HE.o];exact HA8.o,HF8.o.1,HF8.o.2,by omega⟩⟩);case measure=>simp[intOf];omega
                · obtain rfl:n=sp.length:=by omega
                  have HAF:Q_ (AP w wy (.slice qva ss4 qvc) (.pointer pp2) ss4 (rowL o t (3*α+(j+1))) t):=H_ (by
                    have h:=HA.o.1;rw[HSL.o,Y_,<-HMP.o]at h;exact h)
                  clear HA HNI HSL HMP;go_wp2;go_roundw
                  (case rel=>exact⟨j+1,ss4,by omega,by omega,by go_num,HAF⟩);case measure=>simp[intOf];omega
            · obtain rfl:j=3:=by omega
              (obtain⟨qva,qvc,rfl⟩:=η HA.o.rows.1;go_wp2;go_roundw);(case rel=>exact⟨α+1,ss3,by omega,by omega,by go_num,HA⟩);case measure=>simp[intOf];omega
        · obtain rfl:α=4:=by omega
          (obtain⟨qva,qvc,rfl⟩:=η HA.o.rows.1)
          have HLL:=H_ (show k+1<=ss2.length from by
            obtain⟨r,hr⟩:=HRP.o;have h1:=HA.o.rows.2.1;rw[show 3*4=12 from rfl,hr,n_,<-HOL.o]at h1;omega)
          go_wp2;go_roundw
          (case rel=>exact⟨k+1,ss2,_,HLL.o,by omega,by go_num,H_ ⟨HA.o.rows,HA.o.below,HRN.o,HRI.o 12 (le_ _)⟩⟩);case measure=>simp[intOf];omega
    · obtain rfl:k=ss.length:=by omega
      have HE:=H_ (show o=allV t0.post from by
        (have h:=HQ.o.2.2.1)
        rwa [show 60-ss.length=(59-ss.length)+1 by omega,allGo_done (by rw[HOL.o];exact le_ _)]at h)
      go_wp2;go_ret;exact ι.mk _ rfl ⟨⟨ss,by rw[<-HE.o];exact HQ.o.1⟩,HQ.o.2.1⟩
end
end Go.Proofs.YtfnnhimopokpnaaGreatDoor
