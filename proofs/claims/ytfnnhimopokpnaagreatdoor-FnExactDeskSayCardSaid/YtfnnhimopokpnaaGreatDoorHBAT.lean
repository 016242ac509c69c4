/- Lemmas for this seat; no condition. -/
import Derived.Test.YtfnnhimopokpnaaGreatDoorHBAS
namespace Go.Proofs.YtfnnhimopokpnaaGreatDoor
open Go.RowKit Proofs.Tryz
set_option maxRecDepth 100000
set_option maxHeartbeats 0
set_option linter.all false
variable {l L:List (List Int)} {k lo g m j:Nat} {x:List Int} {w w' w3 wr:World} {v' s va vb:Value} {ss:List Value}
def zeh(t:KT):Prop:=∀ (lo hi:Nat) (v:Value) (w:World) (α:Nat) (c:Int),SlI lo hi w v t.post->t.ok 0=true->t.size<=1700->α<4->16<=c->c<=18->hi<=w ->
 Calls prog 160 #[v,.int .i64 α,.int .i64 c] w (η λv w'=>Β w w' v (partsV t α c)/\Below w w w')
theorem zfx {t:KT}(ht:t.ok 0=true)(hs:t.size<=1700){α:Nat}{c:Int}(hc:16<=c):(∀ x∈partsV t α c,x.length<=2900000)/\(partsV t α c).length<=1700:=
 ⟨λx hx=>x_ (partsV_short ht hc hx) (x_ (a6_ hs (show t.size+1<=1701 by omega)) (by decide)),x_ (partsV_len ht hc) hs⟩
theorem zjx {ts:List (List Int)}(hk:k<ts.length):addsL l (ts.take (k+1))=addL ts[k] (addsL l (ts.take k)):=by rw[s_ hk,addsL_snoc]
theorem zjl {ts:List (List Int)}(k:Nat)(h1:l.length<=5000)(h2:ts.length<=5000):(addsL l (ts.take k)).length<=100000:=by
 have h:=addsL_len (ts.take k) l;have h3:(ts.take k).length<=ts.length:=by rw[ag_];omega
 omega
theorem zja {ts:List (List Int)} {n:Nat}(k:Nat)(h1:∀ x∈l,x.length<=n)(h2:∀ x∈ts,x.length<=n):∀ x∈addsL l (ts.take k),x.length<=n:=by
 intro x hx;rcases addsL_mem.1 hx with hx|hx
 ·exact h1 x hx
 ·exact h2 x (aw_ hx)
theorem zer(lo:Nat)(w:World)(hl:lo<=w):Β lo (w.alloc (.cells #[] 22)) (.slice (some ⟨w,0,none⟩) 0 0) []:=⟨_,0,[],rfl,by rw[κ];exact ze2 lo w hl⟩
theorem zwy(n:Int):zeh (.leaf n):=by
 intro lo hi v w α c hx hok hs hα hc1 hc2 hh;simp only[KT.ok,d_,m_]at hok;obtain⟨hn0,hn18⟩:=hok;obtain⟨a,cap,rfl,_,_⟩:=τ hx;obtain⟨b,off,rfl,hb1,hb2,hb3,hcell⟩:=hx.get 0 (by simp[KT.post]);have hc1:w.cell? (p_ b off)=some (.int .i64 n):=hcell;have hlen:(KT.leaf n).post.length=1:=rfl;rw[hlen];clear hx hlen hcell;have HZ:=H_ (zer w w (le_ _));have HB0:=H_ (ε w (.cells #[] 22));by_cases he:n=c
 ·have hd:(n==c)=true:=by simp[he]
  have HE:=H_ (show partsV (.leaf n) α c=[[15]] by unfold partsV;rw[l_ he]);have⟨w1,hw1⟩:=ex_ ((w.alloc (.cells #[] 22)).alloc (.cells #[(15:Int)] 3));have hs1:w1=w.heap.size+2:=by rw[hw1];simp
  have hb1:Below w w w1:=by rw[hw1];exact(ε _ _).trans ((ε _ _).mono (by simp))
  have HL1:Q_ (LLs w w1 w1 (.slice (some ⟨w,0,none⟩) 0 0) [] []):=H_ (by
   have h:=(ze2 w w (le_ _)).below (ε (w.alloc (.cells #[] 22)) (.cells #[(15:Int)] 3)) (by rw[κ];exact le_ _);rw[<-hw1]at h;exact h.lower (le_ _) (by omega))
  have HO1:Q_ (γ w w1 3 w1 (.slice (some ⟨w+1,0,none⟩) 1 1) [15]):=H_ (by
   have h:=π 1 3 (w.alloc (.cells #[] 22)) (ints [15]) 1 (by omega) rfl;rw[κ]at h;rw[hs1,hw1];exact(γ.len h rfl).lower (by omega) (by omega))
  have HB1:=H_ hb1;have HW1:=H_ hw1;have HS1:=H_ hs1;clear hw1 hb1 he hs1
  go_enter func160,ntmps160
  go_wp2_with (at_builtin;go_loud (refine za9 w1 rfl _ _ 119 rfl 22 () 1 24 underlying119 Υ rfl (by decide) (by decide) rfl HL1.o.1 1 [.slice (some ⟨w+1,0,none⟩) 1 1] (by rw[HS1.o];rfl) rfl (by intro u hu;simp only[b_] at hu;subst hu;rfl) (by rw[HW1.o]) ?c1 ?c2 ?_))
  case c1=>simp
  case c2=>rw[HS1.o];omega
  intro v2 w2 ho2 hg2 hl2 _;rw[<-HW1.o]at hg2;have HJ:=H_ (zf1 HL1.o HO1.o ho2 hg2);have HNZ:=H_ hl2;obtain⟨a2,c2,rfl⟩:=ζ ho2;have hsz2:=HJ.o.2.size;have hs1':=HS1.o
  obtain⟨g2,rfl⟩:∃ g,a2=some ⟨g,0,none⟩:=by
   rcases HJ.o.1.1.1.2 with⟨e,h0⟩|⟨g,cap',cur,e,_⟩
   ·exact absurd h0 (by simp)
   ·injection e with e;exact⟨g,e⟩
  have HR:=H_ (show Β w w2 (.slice (some ⟨g2,0,none⟩) 1 c2) (partsV (.leaf n) α c)/\Below w w w2 from ⟨⟨g2,c2,_,rfl,by rw[HE.o];exact HJ.o.1⟩,δ HB1.o HJ.o.2 (le_ _) (by omega)⟩);clear ho2 hg2 hl2;go_wp2;go_ret;exact η.mk _ rfl HR.o
 ·have hd:(n==c)=false:=by simp[he]
  have HE:=H_ (show partsV (.leaf n) α c=[] by unfold partsV;rw[j_ he]);clear he
  go_enter func160,ntmps160
  go_wp2;go_ret;exact η.mk _ rfl ⟨by rw[HE.o];exact HZ.o,HB0.o⟩
theorem zwb {x y:KT}(ihx:zeh x)(ihy:zeh y):zeh (.bin true x y):=by
 intro lo hi v w α c hx hok hs hα hc1 hc2 hh;simp only[KT.ok,d_]at hok;obtain⟨hokx,hoky⟩:=hok;simp only[KT.size]at hs;have hlen:(KT.bin true x y).post.length=x.size+y.size+1:=by rw[zar];rfl
 have HALF:=H_ (show ∀ w1,Below w w w1->Calls prog 156 #[v] w1 (zhg λa b w2=>Below w1.heap.size w1 w2/\SlI lo hi w2 a x.post/\SlI lo hi w2 b y.post) from λw1 hb1=>
  (zgy lo hi v 0 true x y w1 (hx.below hb1 hh) (by omega) hoky).mono (by rintro e w2 ⟨va,vb,rfl,⟨m,rfl⟩,ha,hb⟩;exact⟨va,vb,rfl,S_ (B_ _ _) m,ha,hb⟩))
 obtain⟨a,cap,rfl,_,hcm⟩:=τ hx;obtain⟨b,off,rfl⟩:=hx.notNil (by omega);obtain⟨b',off',e,_,_,hbl,hc⟩:=hx.get (x.size+y.size) (by omega);injection e with e;injection e with e1 e2;subst e1 e2
 have hc0:w.cell? (p_ b (off+(x.size+y.size)))=some (.int .i64 20):=by
  rw[hc];simp[KT.post,<-zar,KT.op]
 rw[hlen]at HALF ⊢;have IHX:=H_ ihx;have IHY:=H_ ihy;obtain⟨bgx,lnx⟩:=zfx hokx (by omega) (α:=α) hc1;obtain⟨bgy,lny⟩:=zfx hoky (by omega) (α:=α) hc1;have HBX:=H_ bgx;have HBY:=H_ bgy;have HPV:=H_ (partsV_or x y α c);have⟨pa,hpa⟩:=ex_ (partsV x α c);have⟨pb,hpb⟩:=ex_ (partsV y α c);have HPA:=H_ hpa;have HPB:=H_ hpb;rw[<-hpa]at lnx HBX HPV;rw[<-hpb]at lny HBY HPV;have⟨w0,hw0⟩:=xa_ w #[] 22;have hb0:Below w w w0:=by rw[hw0];exact ε _ _
 have hs0:w0=w.heap.size+1:=by rw[hw0];simp
 have HZ:=H_ (show Β w w0 (.slice (some ⟨w,0,none⟩) 0 0) [] by rw[hw0];exact zer w w (le_ _));have HB0:=H_ hb0;have hcd:(w.alloc (.cells #[] 22)).cell? (p_ b (off+(x.size+y.size)))=some (.int .i64 20):=by rw[<-hw0];exact(hb0.cell (p:=p_ b (off+(x.size+y.size))) hbl).trans hc0
 have HW0:=H_ hw0;clear ihx ihy hx hcm hc bgx bgy hpa hpb hw0 hb0
 go_enter func160,ntmps160
 go_wp2_with (rw[<-HW0.o])
 refine(HALF.o w0 HB0.o).mono ?_;rintro e w1 ⟨va,vb,rfl,h_,ha,hb⟩;have hs1:=h_.size;have HB1:=HB0.tr h_ (by omega);have HZ1:=H_ (HZ.o.go h_);have HVA:=H_ ha;have HVB:=H_ hb;obtain⟨aa,ac,rfl,_,_⟩:=τ ha;obtain⟨ba,bc,rfl,_,_⟩:=τ hb;clear h_ ha hb HALF hc0 hcd HW0;go_wp2_with fail
 refine(IHX.o lo hi _ w1 α c HVA.o hokx (by omega) hα hc1 hc2 (by omega)).mono ?_;rintro e w2 ⟨v2,rfl,h2,hb2⟩;rw[<-HPA.o]at h2;have hs2:=hb2.size;have HB2:=HB1.tr hb2 (by omega);have HZ2:=H_ (HZ1.o.go hb2);have HVB2:=H_ (HVB.o.below hb2 (by omega));have H2:=H_ (h2.low (show w<=w1.heap.size by omega));obtain⟨g2,c2,rfl⟩:=h2.shape;clear h2 hb2 HVA HZ1;go_wp2_with fail
 refine(IHY.o lo hi _ w2 α c HVB2.o hoky (by omega) hα hc1 hc2 (by omega)).mono ?_;rintro e w3 ⟨v3,rfl,h3,hb3⟩;rw[<-HPB.o]at h3;have hs3:=hb3.size;have HB3:=HB2.tr hb3 (by omega);have H23:=H_ (H2.o.go hb3);have H3:=H_ (h3.low (show w<=w2.heap.size by omega));obtain⟨g3,c3,rfl⟩:=h3.shape;clear h3 hb3;go_wp2;go_loopw [9,13] (λo i wr=>∃ k:Nat,k<=pb.length/\i=.int .i64 k/\Q_ (Β w wr o (addsL pa (pb.take k)))/\Q_ (Below w w wr/\Below w3 w3 wr)) (λ_ i _=>pb.length-(intOf i).toNat)
 case atStart=>exact⟨0,by omega,rfl,H23,H_ ⟨HB3.o,B_ _ _⟩⟩
 case round=>
  rename World=>wr
  obtain⟨k,hk,rfl,HQ,HB⟩:=hrel;obtain⟨g4,n4,c4,rfl⟩:=HQ.o.shapeN;have hszr:=HB.o.1.size;by_cases hlt:k<pb.length
  ·obtain⟨u,hg,hcu,hu⟩:=(H3.o.go HB.o.2).at k hlt
   have HU:=H_ hu;obtain⟨ua,uc,rfl⟩:=ζ hu;have HNX:=H_ (zjx (l:=pa) hlt);clear hu;go_wp2_with fail
   refine(zjv _ _ _ _ pb[k] wr HQ.o HU.o hszr (zjl k (by omega) (by omega)) (λz hz=>by have:=zja k HBX.o HBY.o z hz;omega) (by have:=HBY.o _ (k_ hlt);omega)).mono ?_;rintro e w5 ⟨v5,rfl,h5,hb5⟩;rw[<-HNX.o]at h5;have H5:=H_ h5;have HB5:=H_ (show Below w w w5/\Below w3 w3 w5 from ⟨HB.o.1.trans (hb5.mono hszr),HB.o.2.trans (hb5.mono HB.o.2.size)⟩);clear h5 hb5;go_wp2;go_roundw
   case rel=>exact⟨k+1,by omega,by go_num,H5,HB5⟩
   case measure=>simp[intOf];omega
  ·obtain rfl:k=pb.length:=by omega
   have HR:=H_ (show Β w wr (.slice (some ⟨g4,0,none⟩) n4 c4) (partsV (.bin true x y) α c) from by
    have h:=HQ.o;rw[F_]at h;rw[HPV.o];exact h)
   go_wp2;go_ret;exact η.mk _ rfl ⟨HR.o,HB.o.1⟩
theorem zv3 {x y:KT}(ihx:zeh x)(ihy:zeh y):zeh (.bin false x y):=by
 intro lo hi v w α c hx hok hs hα hc1 hc2 hh;simp only[KT.ok,d_]at hok;obtain⟨hokx,hoky⟩:=hok;simp only[KT.size]at hs;have hlen:(KT.bin false x y).post.length=x.size+y.size+1:=by rw[zar];rfl
 have HALF:=H_ (show ∀ w1,Below w w w1->Calls prog 156 #[v] w1 (zhg λa b w2=>Below w1.heap.size w1 w2/\SlI lo hi w2 a x.post/\SlI lo hi w2 b y.post) from λw1 hb1=>
  (zgy lo hi v 0 false x y w1 (hx.below hb1 hh) (by omega) hoky).mono (by rintro e w2 ⟨va,vb,rfl,⟨m,rfl⟩,ha,hb⟩;exact⟨va,vb,rfl,S_ (B_ _ _) m,ha,hb⟩))
 obtain⟨a,cap,rfl,_,hcm⟩:=τ hx;obtain⟨b,off,rfl⟩:=hx.notNil (by omega);obtain⟨b',off',e,_,_,hbl,hc⟩:=hx.get (x.size+y.size) (by omega);injection e with e;injection e with e1 e2;subst e1 e2
 have hc0:w.cell? (p_ b (off+(x.size+y.size)))=some (.int .i64 19):=by
  rw[hc];simp[KT.post,<-zar,KT.op]
 rw[hlen]at HALF ⊢;have IHX:=H_ ihx;have IHY:=H_ ihy;obtain⟨bgx,lnx⟩:=zfx hokx (by omega) (α:=α) hc1;obtain⟨bgy,lny⟩:=zfx hoky (by omega) (α:=α) hc1;have HBX:=H_ bgx;have HBY:=H_ bgy;have HPV:=H_ (partsV_seq x y α c)
 have HMB:Q_ (∀ z∈(partsV x α c).map λq=>behV q y.post,z.length<=2910000):=H_ (by
  intro z hz;obtain⟨q,hq,rfl⟩:=I_.1 hz;have:=bgx q hq;have hyl:=y.post_length;unfold behV
  split
  ·omega
  ·simp;omega)
 have HOL:Q_ ((ordL ((partsV x α c).map λq=>behV q y.post)).length<=5000):=H_ (by
  have h:=addsL_len ((partsV x α c).map λq=>behV q y.post) [];rw[E_]at h
  show (addsL [] _).length<=5000
  simp only[O_]at h;omega)
 have HOB:Q_ (∀ z∈ordL ((partsV x α c).map λq=>behV q y.post),z.length<=2910000):=H_ (λz hz=>HMB.o z (ordL_mem.1 hz));have⟨pa,hpa⟩:=ex_ (partsV x α c);have⟨pb,hpb⟩:=ex_ (partsV y α c);have HPA:=H_ hpa;have HPB:=H_ hpb;rw[<-hpa]at lnx HBX HPV HMB HOL HOB;rw[<-hpb]at lny HBY HPV;have⟨w0,hw0⟩:=xa_ w #[] 22;have hb0:Below w w w0:=by rw[hw0];exact ε _ _
 have hs0:w0=w.heap.size+1:=by rw[hw0];simp
 have HZ:=H_ (show Β w w0 (.slice (some ⟨w,0,none⟩) 0 0) [] by rw[hw0];exact zer w w (le_ _));have HB0:=H_ hb0;have hcd:(w.alloc (.cells #[] 22)).cell? (p_ b (off+(x.size+y.size)))=some (.int .i64 19):=by rw[<-hw0];exact(hb0.cell (p:=p_ b (off+(x.size+y.size))) hbl).trans hc0
 have HW0:=H_ hw0;clear ihx ihy hx hcm hc bgx bgy hpa hpb hw0 hb0
 go_enter func160,ntmps160
 go_wp2_with (rw[<-HW0.o])
 refine(HALF.o w0 HB0.o).mono ?_;rintro e w1 ⟨va,vb,rfl,h_,ha,hb⟩;have hs1:=h_.size;have HB1:=HB0.tr h_ (by omega);have HZ1:=H_ (HZ.o.go h_);have HVA:=H_ ha;have HVB:=H_ hb;obtain⟨aa,ac,rfl,_,_⟩:=τ ha;obtain⟨ba,bc,rfl,_,_⟩:=τ hb;clear h_ ha hb HALF hc0 hcd HW0;go_wp2_with fail
 refine(IHX.o lo hi _ w1 α c HVA.o hokx (by omega) hα hc1 hc2 (by omega)).mono ?_;rintro e w2 ⟨v2,rfl,h2,hb2⟩;rw[<-HPA.o]at h2;have hs2:=hb2.size;have HB2:=HB1.tr hb2 (by omega);have HZ2:=H_ (HZ1.o.go hb2);have HVB2:=H_ (HVB.o.below hb2 (by omega));have HVA2:=H_ (HVA.o.below hb2 (by omega));have H2:=H_ (h2.low (show w<=w1.heap.size by omega));obtain⟨g2,c2,rfl⟩:=h2.shape;clear h2 hb2 HVA HZ1;go_wp2;go_loopw [9,17] (λo i wr=>∃ k:Nat,k<=pa.length/\i=.int .i64 k/\Q_ (Β w wr o (addsL [] ((pa.map λq=>behV q y.post).take k)))/\Q_ (Below w w wr/\Below w2 w2 wr)) (λ_ i _=>pa.length-(intOf i).toNat)
 case atStart=>exact⟨0,by omega,rfl,HZ2,H_ ⟨HB2.o,B_ _ _⟩⟩
 case round=>
  rename World=>wr
  obtain⟨k,hk,rfl,HQ,HB⟩:=hrel;obtain⟨g4,n4,c4,rfl⟩:=HQ.o.shapeN;have hszr:=HB.o.1.size;have hszr2:=HB.o.2.size;by_cases hlt:k<pa.length
  ·obtain⟨u,hg,hcu,hu⟩:=(H2.o.go HB.o.2).at k hlt
   have HU:=H_ hu;obtain⟨ua,uc,rfl⟩:=ζ hu;have hltm:k<(pa.map λq=>behV q y.post).length:=by rw[E_];exact hlt
   have HNX:=H_ (zjx (l:=[]) hltm);rw[a4_]at HNX;have hbk:=HBX.o _ (k_ hlt);have HPY:=H_ y.post_length;have hylen:y.post.length<=1700:=by rw[HPY.o];omega
   clear hu;go_wp2_with fail
   refine(zn1 _ _ _ _ _ _ pa[k] y.post wr HU.o.sl (HVB2.o.below HB.o.2 (by omega)) (le_ _) (by omega) (by omega)).mono ?_;rintro e w4 ⟨v4,rfl,hb4,ho4⟩;have hs4:=hb4.size;have HO4:=H_ (ho4.lower hszr (le_ _));have HQ4:=H_ (HQ.o.go hb4);have HB4:=H_ (show Below w w w4/\Below w2 w2 w4 from ⟨HB.o.1.trans (hb4.mono hszr),HB.o.2.trans (hb4.mono hszr2)⟩);obtain⟨za,zc,rfl⟩:=ζ ho4;clear hb4 ho4;go_wp2_with fail
   refine(zjv _ _ _ _ (behV pa[k] y.post) w4 HQ4.o HO4.o (by omega) (zjl k (by simp) (by rw[E_];omega)) (λz hz=>by have:=zja k (n:=2910000) (l:=[]) (by simp) HMB.o z hz;omega) (by have:=HMB.o _ (I_.2 ⟨_,k_ hlt,rfl⟩);omega)).mono ?_;rintro e w5 ⟨v5,rfl,h5,hb5⟩;rw[<-HNX.o]at h5;have H5:=H_ h5;have HB5:=H_ (show Below w w w5/\Below w2 w2 w5 from ⟨HB4.o.1.trans (hb5.mono (by omega)),HB4.o.2.trans (hb5.mono (by omega))⟩);clear h5 hb5;go_wp2;go_roundw
   case rel=>exact⟨k+1,by omega,by go_num,H5,HB5⟩
   case measure=>simp[intOf];omega
  ·obtain rfl:k=pa.length:=by omega
   have HQ':=H_ (show Β w wr (.slice (some ⟨g4,0,none⟩) n4 c4) (ordL (pa.map λq=>behV q y.post)) from by
    (have h:=HQ.o;have e:(pa.map λq=>behV q y.post).take pa.length=pa.map λq=>behV q y.post:=W_ (by simp));rw[e]at h;exact h)
   clear HQ;go_wp2_with fail
   refine(IHY.o lo hi _ wr α c (HVB2.o.below HB.o.2 (by omega)) hoky (by omega) hα hc1 hc2 (by omega)).mono ?_;rintro e w3 ⟨v3,rfl,h3,hb3⟩;rw[<-HPB.o]at h3;have hs3:=hb3.size;have HB3:=H_ (show Below w w w3/\Below w2 w2 w3 from ⟨HB.o.1.trans (hb3.mono hszr),HB.o.2.trans (hb3.mono hszr2)⟩);have H23:=H_ (HQ'.o.go hb3);have H3:=H_ (h3.low hszr);obtain⟨g3,c3,rfl⟩:=h3.shape;clear h3 hb3 HQ';go_wp2;go_loopw [9,19] (λo i wx=>∃ k:Nat,k<=pb.length/\i=.int .i64 k/\Q_ (Β w wx o (addsL (ordL (pa.map λq=>behV q y.post)) ((if (endsK x).testBit α then pb else []).take k)))/\Q_ (Below w w wx/\Below w3 w3 wx)) (λ_ i _=>pb.length-(intOf i).toNat)
   case atStart=>exact⟨0,by omega,rfl,H_ (by obtain⟨g,cc,e⟩:=H23.o.shape;exact H23.o),H_ ⟨HB3.o.1,B_ _ _⟩⟩
   case round=>
    rename World=>wx
    obtain⟨k,hk,rfl,HQ,HBx⟩:=hrel;obtain⟨g5,n5,c5,rfl⟩:=HQ.o.shapeN;have hszx:=HBx.o.1.size;have hszx2:=HBx.o.2.size;by_cases hlt:k<pb.length
    ·(obtain⟨u,hg,hcu,hu⟩:=(H3.o.go HBx.o.2).at k hlt);(have HU:=H_ hu;obtain⟨ua,uc,rfl⟩:=ζ hu;have HVX:=H_ (HVA2.o.below (HB3.o.2.trans (HBx.o.2.mono (by omega))) (by omega));clear hu;go_wp2_with fail);refine(zkm x lo hi _ wx HVX.o hokx (by omega) (by omega)).mono ?_;rintro e w6 ⟨rfl,hb6⟩;have hs6:=hb6.size;have HB6:=H_ (show Below w w w6/\Below w3 w3 w6 from ⟨HBx.o.1.trans (hb6.mono hszx),HBx.o.2.trans (hb6.mono hszx2)⟩);have HQ6:=H_ (HQ.o.go hb6);have HU6:=H_ ((HU.o.below hb6 (le_ _)).lower (le_ _) hs6);have hcu6:w6.cell? (p_ g3 k)=some (.slice ua pb[k].length uc):=(hb6.cell (p:=p_ g3 k) hg).trans hcu;have hek:=zd3 hokx;clear hb6 hcu HQ;go_wp2_with fail
     refine(zfq (endsK x) α (by omega) (by omega) w6).mono ?_;rintro e _ ⟨rfl,rfl⟩;cases hbit:(endsK x).testBit α
     ·(have hbi:zaj (endsK x) α=0:=by simp[zaj,hbit]);rw[hbi]
      have HR:=H_ (show Β w w6 (.slice (some ⟨g5,0,none⟩) n5 c5) (partsV (.bin false x y) α c) from by
       (have h:=HQ6.o;rw[HPV.o];rw[hbit]at h ⊢);simpa [addsL_nil] using h)
      clear hbit hbi;go_wp2;go_ret;exact η.mk _ rfl ⟨HR.o,HB6.o.1⟩
     ·(have hbi:zaj (endsK x) α=1:=by simp[zaj,hbit]);rw[hbi];have HIF:=H_ (show (if (endsK x).testBit α then pb else [])=pb by rw[hbit,l_ rfl]);have HNX:=H_ (zjx (l:=ordL (pa.map λq=>behV q y.post)) hlt)
      have HQ7:=H_ (show Β w w6 (.slice (some ⟨g5,0,none⟩) n5 c5) (addsL (ordL (pa.map λq=>behV q y.post)) (pb.take k)) from by
       have h:=HQ6.o;rw[HIF.o]at h;exact h)
      clear hbit hbi HQ6;go_wp2_with fail
      refine(zjv _ _ _ _ pb[k] w6 HQ7.o HU6.o (by omega) (zjl k HOL.o (by omega)) (λz hz=>by have:=zja k (n:=2910000) HOB.o (λz hz=>by have:=HBY.o z hz;omega) z hz;omega) (by have:=HBY.o _ (k_ hlt);omega)).mono ?_;rintro e w7 ⟨v7,rfl,h7,hb7⟩;rw[<-HNX.o]at h7;have H7:=H_ (show Β w w7 v7 (addsL (ordL (pa.map λq=>behV q y.post)) ((if (endsK x).testBit α then pb else []).take (k+1))) from by rw[HIF.o];exact h7);have HB7:=H_ (show Below w w w7/\Below w3 w3 w7 from ⟨HB6.o.1.trans (hb7.mono (by omega)),HB6.o.2.trans (hb7.mono (by omega))⟩);clear h7 hb7;go_wp2;go_roundw
      (case rel=>exact⟨k+1,by omega,by go_num,H7,HB7⟩);case measure=>simp[intOf];omega
    ·(obtain rfl:k=pb.length:=by omega)
     have HR:=H_ (show Β w wx (.slice (some ⟨g5,0,none⟩) n5 c5) (partsV (.bin false x y) α c) from by
      (have h:=HQ.o;have e:(if (endsK x).testBit α then pb else []).take pb.length=if (endsK x).testBit α then pb else []:=W_ (by split<;>simp));rw[e]at h;rw[HPV.o];exact h)
     go_wp2;go_ret;exact η.mk _ rfl ⟨HR.o,HBx.o.1⟩
theorem zxu {x:KT}(ihx:zeh x):zeh (.star x):=by
 intro lo hi v w α c hx hok hs hα hc1 hc2 hh;have hokx:x.ok 0=true:=hok;simp only[KT.size]at hs;have hlen:(KT.star x).post.length=x.size+1:=by rw[zar];rfl
 obtain⟨a,cap,rfl,hcc,hcm⟩:=τ hx;obtain⟨b,off,rfl⟩:=hx.notNil (by omega);obtain⟨b',off',e,_,_,hbl,hc⟩:=hx.get x.size (by omega);injection e with e;injection e with e1 e2;subst e1 e2
 have hc0:w.cell? (p_ b (off+x.size))=some (.int .i64 21):=by
  rw[hc];simp[KT.post,<-zar]
 have HSX:Q_ (SlI lo hi w (.slice (some ⟨b,off,none⟩) x.size cap) x.post):=H_ (by
  have h2:=hx.sub 0 x.size (ai_ _) (by omega)
  simpa [KT.post,<-zar] using h2)
 have HX:=H_ hx;have hpl:(KT.star x).post.length<=1700:=by omega
 rw[hlen]at hcc HX ⊢;have e4:x.size<=cap:=by omega
 have IHX:=H_ ihx;obtain⟨bgx,lnx⟩:=zfx hokx (by omega) (α:=α) hc1;have HBX:=H_ bgx;have HPV:=H_ (partsV_star x α c)
 have HMB:Q_ (∀ z∈(partsV x α c).map λq=>behV q (KT.star x).post,z.length<=2910000):=H_ (by
  intro z hz;obtain⟨q,hq,rfl⟩:=I_.1 hz;have:=bgx q hq;unfold behV
  split
  ·omega
  ·simp only[i_,List.length_singleton];omega)
 have⟨pa,hpa⟩:=ex_ (partsV x α c);have HPA:=H_ hpa;rw[<-hpa]at lnx HBX HPV HMB;have⟨w0,hw0⟩:=xa_ w #[] 22;have hb0:Below w w w0:=by rw[hw0];exact ε _ _
 have hs0:w0=w.heap.size+1:=by rw[hw0];simp
 have HZ:=H_ (show Β w w0 (.slice (some ⟨w,0,none⟩) 0 0) [] by rw[hw0];exact zer w w (le_ _));have HB0:=H_ hb0;have HSX0:=H_ (HSX.o.below hb0 hh);have hcd:(w.alloc (.cells #[] 22)).cell? (p_ b (off+x.size))=some (.int .i64 21):=by rw[<-hw0];exact(hb0.cell (p:=p_ b (off+x.size)) hbl).trans hc0
 have HW0:=H_ hw0;have HPL:=H_ hlen;unfold maxLen at hcm;clear ihx hx hc bgx hpa hw0 hb0 hlen
 go_enter func160,ntmps160
 go_wp2_with (rw[<-HW0.o])
 refine(IHX.o lo hi _ w0 α c HSX0.o hokx (by omega) hα hc1 hc2 (by omega)).mono ?_;rintro e w2 ⟨v2,rfl,h2,hb2⟩;rw[<-HPA.o]at h2;have hs2:=hb2.size;have HB2:=HB0.tr hb2 (by omega);have HZ2:=H_ (HZ.o.go hb2);have H2:=H_ (h2.low (show w<=w0.heap.size by omega));obtain⟨g2,c2,rfl⟩:=h2.shape;clear h2 hb2 HZ hc0 hcd HW0;go_wp2;go_loopw [9,21] (λo i wr=>∃ k:Nat,k<=pa.length/\i=.int .i64 k/\Q_ (Β w wr o (addsL [] ((pa.map λq=>behV q (KT.star x).post).take k)))/\Q_ (Below w w wr/\Below w2 w2 wr)) (λ_ i _=>pa.length-(intOf i).toNat)
 case atStart=>exact⟨0,by omega,rfl,HZ2,H_ ⟨HB2.o,B_ _ _⟩⟩
 case round=>
  rename World=>wr
  obtain⟨k,hk,rfl,HQ,HB⟩:=hrel;obtain⟨g4,n4,c4,rfl⟩:=HQ.o.shapeN;have hszr:=HB.o.1.size;have hszr2:=HB.o.2.size;by_cases hlt:k<pa.length
  ·obtain⟨u,hg,hcu,hu⟩:=(H2.o.go HB.o.2).at k hlt
   have HU:=H_ hu;obtain⟨ua,uc,rfl⟩:=ζ hu;have hltm:k<(pa.map λq=>behV q (KT.star x).post).length:=by rw[E_];exact hlt
   have HNX:=H_ (zjx (l:=[]) hltm);rw[a4_]at HNX;have hbk:=HBX.o _ (k_ hlt);clear hu;go_wp2_with fail
   refine(zn1 _ _ _ _ _ _ pa[k] (KT.star x).post wr HU.o.sl (HX.o.below HB.o.1 hh) (le_ _) (by omega) (by omega)).mono ?_;rintro e w4 ⟨v4,rfl,hb4,ho4⟩;have hs4:=hb4.size;have HO4:=H_ (ho4.lower hszr (le_ _));have HQ4:=H_ (HQ.o.go hb4);have HB4:=H_ (show Below w w w4/\Below w2 w2 w4 from ⟨HB.o.1.trans (hb4.mono hszr),HB.o.2.trans (hb4.mono hszr2)⟩);obtain⟨za,zc,rfl⟩:=ζ ho4;clear hb4 ho4;go_wp2_with fail
   refine(zjv _ _ _ _ (behV pa[k] (KT.star x).post) w4 HQ4.o HO4.o (by omega) (zjl k (by simp) (by rw[E_];omega)) (λz hz=>by have:=zja k (n:=2910000) (l:=[]) (by simp) HMB.o z hz;omega) (by have:=HMB.o _ (I_.2 ⟨_,k_ hlt,rfl⟩);omega)).mono ?_;rintro e w5 ⟨v5,rfl,h5,hb5⟩;rw[<-HNX.o]at h5;have H5:=H_ h5;have HB5:=H_ (show Below w w w5/\Below w2 w2 w5 from ⟨HB4.o.1.trans (hb5.mono (by omega)),HB4.o.2.trans (hb5.mono (by omega))⟩);clear h5 hb5;go_wp2;go_roundw
   case rel=>exact⟨k+1,by omega,by go_num,H5,HB5⟩
   case measure=>simp[intOf];omega
  ·obtain rfl:k=pa.length:=by omega
   have HR:=H_ (show Β w wr (.slice (some ⟨g4,0,none⟩) n4 c4) (partsV (.star x) α c) from by
    (have h:=HQ.o;have e:(pa.map λq=>behV q (KT.star x).post).take pa.length=pa.map λq=>behV q (KT.star x).post:=W_ (by simp));rw[e]at h;rw[HPV.o];exact h)
   go_wp2;go_ret;exact η.mk _ rfl ⟨HR.o,HB.o.1⟩
theorem zfs:∀ t:KT,zeh t
 | .leaf n=>zwy n
 | .bin true a b=>zwb (zfs a) (zfs b)
 | .bin false a b=>zv3 (zfs a) (zfs b)
 | .star a=>zxu (zfs a)
theorem zsj(hk:k<l.length)(h:x ∉ l.take k)(he:l[k]≠x):x ∉ l.take (k+1):=by
 rw[s_ hk,u_,b_];rintro(h1|h1)
 ·exact h h1
 ·exact he h1.symm
theorem zo2(lo hi lo' hi':Nat)(v vx:Value)(xss:List (List Int))(x:List Int)(w:World)(hl:zaz lo hi w v xss)(hx:SlI lo' hi' w vx x)(hh:hi<=w)(hh':hi'<=w)(hm:xss.length<=1048576)(hms:∀ y∈xss,y.length<=16777216)(hmx:x.length<=16777216):
  Calls prog 161 #[v,vx] w λe w'=>e=.returned (decide (x∈xss))/\Below w w w':=by
 have HL:=H_ hl;have HX:=H_ hx;have HMS:=H_ hms;obtain⟨a,cap,rfl,_,_⟩:=hl.shape;obtain⟨xa,xc,rfl,_,_⟩:=τ hx;clear hl hx hms
 go_enter func161,ntmps161
 go_wp2;go_loopw [5] (λi wr=>∃ k:Nat,k<=xss.length/\i=.int .i64 k/\Q_ (Below w w wr)/\Q_ (x ∉ xss.take k)) (λi _=>xss.length-(intOf i).toNat)
 case atStart=>exact⟨0,by omega,rfl,H_ (B_ _ _),H_ (by simp)⟩
 case round=>
  rename World=>wr
  obtain⟨k,hk,rfl,HB,HN⟩:=hrel;have hzr:=HB.o.size;by_cases hlt:k<xss.length
  ·obtain⟨b5,off5,u5,rfl,_,_,_,hc5,hu5⟩:=(HL.o.below HB.o hh).get k hlt
   obtain⟨ua,uc,rfl,_,_⟩:=τ hu5;have HU:=H_ hu5;have hly:=HMS.o _ (k_ hlt);clear hu5;go_wp2_with fail
   refine(zjo _ _ _ _ _ _ xss[k] x wr HU.o (HX.o.below HB.o hh') hly hmx).mono ?_;rintro e1 w1 ⟨rfl,hb1⟩;have HB1:=HB.tr hb1 hzr;clear hb1;cases heq:eqL xss[k] x
   ·(have HNN:=H_ (zsj hlt HN.o (λh=>by rw[h,zg1] at heq;cases heq)));clear heq;go_wp2;go_roundw
    (case rel=>exact⟨k+1,by omega,by go_num,HB1,HNN⟩);case measure=>simp[intOf];omega
   ·have HY:=H_ (show true=decide (x∈xss) by
     rw[zdv]at heq;rw[<-of_decide_eq_true heq];simp)
    clear heq;go_wp2;go_ret;exact⟨ξ HY.o,HB1.o⟩
  ·obtain rfl:k=xss.length:=by omega
   have HY:=H_ (show false=decide (x∈xss) by
    have h:=HN.o;rw[F_]at h;simp[h])
   go_wp2;go_ret;exact⟨ξ HY.o,HB.o⟩
theorem Β.app {cap:Nat} {xss:List (List Int)} {ys:List Int}(h:LLs lo w w (.slice (some ⟨g,0,none⟩) ss cap) ss xss)(hs:γ lo w 3 w s ys)
  (ho:Own 1 lo w' 22 w' v' (ss.length+1) (ss++[s])) (hg:(w.alloc (.cells #[s] 22)).grownBy w' (Value.slice (some ⟨g,0,none⟩) ss cap).ownBlock):Β lo w' v' (xss++[ys])/\β lo w w w':=by
 have hJ:=zf1 h hs ho hg;obtain⟨g2,c2,rfl⟩:=zh0 ho (by simp);exact⟨⟨g2,c2,ss++[s],by rw[i_];rfl,hJ.1⟩,hJ.2⟩
theorem LLs.beside {hi lo':Nat} {pv v:Value} {sp:List Value} {ps o:List (List Int)}(hO:LLs lo' w w v ss o)(hp:LLs lo hi w pv sp ps)(hh:hi<=w)(hd:pv.ownBlock=none\/pv.ownBlock≠v.ownBlock)
  (hg:(w.alloc (.cells #[s] 22)).grownBy w' v.ownBlock) (hl:v'.ownBlock=v.ownBlock\/v'.ownBlock=some (w.alloc (.cells #[s] 22)).heap.size) :
  LLs lo hi w' pv sp ps/\(pv.ownBlock=none\/pv.ownBlock≠v'.ownBlock):=by
 have hk:=ε w (.cells #[s] 22);refine⟨LLs.far (hp.below hk hh) (hO.1.below hk (le_ _)) hg hd,?_⟩;rcases hl with e|e
 ·rw[e];exact hd
 ·rw[e]
  cases hb:pv.ownBlock with
  | none=>exact .inl rfl
  | some g=>
   right
   have:=(hp.1.1.lt g hb).2;have hz:(w.alloc (.cells #[s] 22)).heap.size=w.heap.size+1:=κ _ _;simp;omega
theorem zy0(lo hi:Nat)(v:Value)(t0:KT)(w:World)(hx:SlI lo hi w v t0.post)(hh:hi<=w)(hok:t0.ok 0=true)(hsz:t0.size<=40):
  Calls prog 190 #[v] w (η λv w'=>Β w w' v (allV t0.post)/\Below w w w'):=by
 obtain⟨a,cap,rfl,hcap,hcm⟩:=τ hx;have HA0:=H_ (AllI.one (P:=Cl t0) (t:=t0) (ab_ ..));have HK:=H_ (Cl.kept hok);have HPL:=H_ t0.post_length;have hpl:t0.post.length<=40:=by rw[HPL.o];exact hsz
 have⟨w0,hw0⟩:=xa_ w #[] 3;have hb0:Below w w w0:=by rw[hw0];exact ε _ _
 have hs0:w0=w.heap.size+1:=by rw[hw0];simp
 have H0:Q_ (Own 1 w (w+1) 3 w0 (.slice (some ⟨w,0,none⟩) 0 0) 0 (ints [])):=H_ (by rw[hw0];exact π 1 3 w (ints []) 0 (by omega) rfl);have HX0:=H_ (hx.below hb0 hh);have HB0:=H_ hb0;have HW0:=H_ hw0;clear hx hw0 hb0
 go_enter func190,ntmps190
 go_wp2_with (at_builtin;go_loud (rw[<-HW0.o];refine Ο rfl _ _ 22 rfl 3 (0:Int) 1 8 underlying22 Δ rfl (by decide) (by decide) rfl H0.o rfl HX0.o (Μ _) ?c1 ?c2 ?_))
 case c1=>omega
 case c2=>omega
 intro v1 w1 ho1 _ hout1 _;have hz1:=hout1.size;have ho1':γ w w1 3 w1 v1 t0.post:=γ.len (xs:=t0.post) (by simpa [ints] using ho1) (by simp);have hH:=LLs.one ho1' (by omega);have H1:=H_ (show Β w (w1.alloc (.cells #[v1] 22)) (.slice (some ⟨w1,0,none⟩) 1 1) [t0.post] from ⟨_,1,[v1],rfl,by rw[κ];exact hH⟩);have HB1:=H_ (show Below w w (w1.alloc (.cells #[v1] 22)) from (δ HB0.o hout1 (le_ _) (by omega)).trans ((ε _ _).mono (by omega)));obtain⟨oa,oc,rfl⟩:=ζ ho1;clear ho1 hout1 ho1' hH HW0;go_wp2;go_loopw [3,4] (λv i wr=>∃ (k:Nat) (o:List (List Int)),k<=o.length/\o.length<=41/\i=.int .i64 k/\Q_ (Β w wr v o/\Below w w wr/\allGo (60-k) k o=allV t0.post/\AllI (Cl t0) o)) (λ_ i _=>60-(intOf i).toNat)
 case atStart=>exact⟨0,[t0.post],by simp,by simp,rfl,H_ ⟨H1.o,HB1.o,rfl,HA0.o⟩⟩
 case round=>
  rename World=>wr
  obtain⟨k,o,hk,h41,rfl,HQ⟩:=hrel;have hszr:=HQ.o.2.1.size;obtain⟨og,oc,rfl⟩:=HQ.o.1.shape;by_cases hlt:k<o.length
  ·have HT:=H_ (AllI.tree HK.o HQ.o.2.2.2 hlt)
   have⟨t,ht⟩:=ex_ (Κ (o.getD k []));rw[<-ht]at HT;have HTS:=H_ (Cl.size HT.o.1 hsz);have HTO:=H_ (HK.o.ok HT.o.1);have HOT:=H_ (show o[k]=t.post from by rw[HT.o.2,List.getD,c_ hlt];rfl);have HRI:=H_ (λm (hm:m<=12)=>AllI.row HK.o HQ.o.2.2.2 HT.o.1 hm);have HRL:=H_ (λm (hm:m<=12)=>(HRI.o m hm).len hsz)
   have HRN:=H_ (show allGo (60-(k+1)) (k+1) (rowL o t 12)=allV t0.post from by
    have h:=HQ.o.2.2.1;rw[show 60-k=(60-(k+1))+1 by omega,allGo_more hlt,<-ht]at h;exact h)
   have HT1:=H_ HT.o.1
   have HRP:=H_ (show ∀ m,m<=12->∃ h:k<(rowL o t m).length,(rowL o t m)[k]=t.post from λm _=>by
    (obtain⟨r,hr⟩:=rowL_pre o t m;have hlt2:k<(rowL o t m).length:=by rw[hr,i_];omega);exact⟨hlt2,by rw[ck_ hr,ac_ hlt];exact HOT.o⟩)
   have HAP:=H_ (show Β w wr (.slice (some ⟨og,0,none⟩) o oc) (rowL o t 0)/\Below w w wr from ⟨HQ.o.1,HQ.o.2.1⟩);clear HOT ht HQ HT;go_wp2;go_loopw [3,5] (λv i wx=>∃ α:Nat,α<=4/\i=.int .i64 α/\Q_ (Β w wx v (rowL o t (3*α))/\Below w w wx)) (λ_ i _=>4-(intOf i).toNat)
   case atStart=>exact⟨0,by omega,rfl,HAP⟩
   case round=>
    clear HAP
    rename World=>wx0
    obtain⟨α,hα,rfl,HA⟩:=hrel;obtain⟨pg,pc,hpv⟩:=HA.o.1.shape;subst hpv;by_cases hlt2:α<4
    ·(have hd2:decide ((α:Int)<=3)=true:=by simp;omega);go_wp2;go_loopw [3,6] (λv i wx=>∃ j:Nat,j<=3/\i=.int .i64 (16+(j:Int))/\Q_ (Β w wx v (rowL o t (3*α+j))/\Below w w wx)) (λ_ i _=>19-(intOf i).toNat)
     case atStart=>exact⟨0,by omega,rfl,HA⟩
     case round=>
      clear HA
      rename World=>wx
      obtain⟨j,hj,rfl,HA⟩:=hrel;obtain⟨rg,rc,hrv⟩:=HA.o.1.shape;subst hrv;by_cases hlt3:j<3
      ·(have hd3:decide ((16:Int)+(j:Int)<=18)=true:=by simp;omega);(have hzx:=HA.o.2.size;obtain⟨hkr,hkp⟩:=HRP.o (3*α+j) (by omega);have hrl41:=HRL.o (3*α+j) (by omega);obtain⟨u5,_,hc5,hu5⟩:=HA.o.1.at k hkr;rw[hkp]at hu5;have HU5:=H_ hu5;obtain⟨pa5,pc5,rfl⟩:=ζ hu5;have hts:=HTS.o)
       have HLB:=H_ (show ∀ y∈rowL o t (3*α+j),y.length<=16777216 from λy hy=>by
        obtain⟨q,hq1,hq2⟩:=(HRI.o (3*α+j) (by omega)).mem y hy;rw[<-hq2,q.post_length];have:=Cl.size hq1 hsz;omega)
       clear hu5 hkp;go_wp2_with fail
       refine(zfs t _ _ _ wx α (16+(j:Int)) HU5.o.sl HTO.o (by omega) hlt2 (by omega) (by omega) (le_ _)).mono ?_;rintro e3 w3 ⟨v3,rfl,h3_,hb3_⟩;have hz3:=hb3_.size;obtain⟨bigP,lnP⟩:=zfx HTO.o (by omega) (α:=α) (c:=16+(j:Int)) (by omega)
       have HMP:=H_ (show moveP t (3*α+j)=partsV t α (16+(j:Int)) by
        unfold moveP;rw[show (3*α+j)/3=α by omega,show (3*α+j)%3=j by omega])
       (have⟨ps,hps⟩:=ex_ (partsV t α (16+(j:Int)));rw[<-hps]at h3_ HMP lnP bigP;have HBP:=H_ bigP;clear hps bigP;obtain⟨gp,cp,sp,rfl,h3⟩:=h3_;have HSL:=H_ h3.2.1;have hsl2:sp.length<=1700:=by rw[HSL.o];exact lnP);(obtain⟨rg',rc',rss,hre,hrl⟩:=HA.o.1;injection hre with hre1 hre2 hre3;injection hre1 with hre1;injection hre1 with hre1;subst hre1 hre3;have HA3:=H_ (show Β w w3 (.slice (some ⟨rg,0,none⟩) (rowL o t (3*α+j)).length rc) (rowL o t (3*α+j))/\Below w w w3 from ⟨HA.o.1.go hb3_,HA.o.2.trans (hb3_.mono hzx)⟩);have H3:=H_ h3)
       have HNE:Q_ ((Value.slice (some ⟨gp,0,none⟩) sp cp).ownBlock=none\/(Value.slice (some ⟨gp,0,none⟩) sp cp).ownBlock≠(Value.slice (some ⟨rg,0,none⟩) (rowL o t (3*α+j)).length rc).ownBlock):=H_ (by
        right
        intro e;have h1:=(h3.1.1.lt gp rfl).1;have h2:=(hrl.1.1.lt rg rfl).2;simp only[Value.ownBlock,Z_]at e;omega)
       (have HNI:=H_ (show ∀ n,AllI (Cl t0) (newL (rowL o t (3*α+j)) (ps.take n)) from λn=>AllI.new (HRI.o _ (by omega)) λx hx=>moveP_kept HK.o HT1.o (m:=3*α+j) (by omega) x (by rw[HMP.o];exact aw_ hx));clear h3 hb3_ HA hrl hre2 lnP;go_wp2;go_loopw [3,8] (λv i wy=>∃ n:Nat,n<=sp.length/\i=.int .i64 n/\Q_ ((Β w wy v (newL (rowL o t (3*α+j)) (ps.take n))/\Below w w wy)/\LLs wx w3 wy (.slice (some ⟨gp,0,none⟩) sp cp) sp ps/\((Value.slice (some ⟨gp,0,none⟩) sp cp).ownBlock=none\/(Value.slice (some ⟨gp,0,none⟩) sp cp).ownBlock≠v.ownBlock)/\w3<=wy.heap.size)) (λ_ i _=>sp.length-(intOf i).toNat));case atStart=>exact⟨0,by omega,rfl,H_ ⟨HA3.o,H3.o,HNE.o,le_ _⟩⟩
       case round=>
        clear HA3 H3 HNE
        rename World=>wy
        (obtain⟨n,hn,rfl,HA⟩:=hrel;obtain⟨qg,qc,ss4,rfl,hq⟩:=HA.o.1.1;have HOQ:=H_ hq;have HLN:=H_ hq.2.1;have h41_:ss4.length<=41:=by rw[HLN.o];exact(HNI.o n).len hsz);clear hq;by_cases hlt4:n<sp.length
        ·(have hnp:n<ps.length:=by rw[<-HSL.o];exact hlt4);(have hzy:=HA.o.2.2.2;have hzw:=HA.o.1.2.size;have HNX:=H_ (newL_snoc ps[n] (ps.take n) (rowL o t (3*α+j)));obtain⟨g6,e6,_,_,hg6,hc6,hu6⟩:=HA.o.2.1.at n hlt4 hnp;injection e6 with e6;injection e6 with e6;subst e6;have HU6:=H_ hu6;obtain⟨pa6,pc6,hs6⟩:=ζ hu6;rw[hs6]at hc6;have HS6:=H_ hs6;have hpn:=HBP.o _ (k_ hnp);clear hs6 hu6;go_wp2_with fail);refine(zo2 _ _ _ _ _ _ _ ps[n] wy HOQ.o.sl (by rw[<-HS6.o];exact HU6.o.sl) (le_ _) (by omega) (by rw[<-HLN.o];omega) (λy hy=>?_) (by omega)).mono ?_
         ·rcases newL_mem.1 hy with hy|hy
          ·exact HLB.o y hy
          ·have:=HBP.o y (aw_ hy);omega
         rintro e7 w7 ⟨rfl,hb7⟩;have hz7:=hb7.size;have HO7:=H_ ((HOQ.o.below hb7 (le_ _)).lower (le_ _) hz7);have HP7:=H_ (HA.o.2.1.below hb7 (by omega));have HU7:=H_ (HU6.o.below hb7 (by omega));have HB7:=H_ (HA.o.1.2.trans (hb7.mono hzw));have HNE:=H_ HA.o.2.2.1;have hc7:w7.cell? (p_ gp n)=some (.slice pa6 ps[n].length pc6):=(hb7.cell (p:=p_ gp n) hg6).trans hc6;clear hb7 HA hc6;by_cases hmem:ps[n]∈newL (rowL o t (3*α+j)) (ps.take n)
         ·(have hdm:decide (ps[n]∈newL (rowL o t (3*α+j)) (ps.take n))=true:=by simp[hmem]);(have HE:Q_ (newL (rowL o t (3*α+j)) (ps.take (n+1))=newL (rowL o t (3*α+j)) (ps.take n)):=H_ (by rw[s_ hnp,HNX.o,l_ hmem]);clear hmem HNX;rw[hdm];clear hdm;go_wp2;go_roundw);(case rel=>exact⟨n+1,by omega,by go_num,H_ ⟨⟨by rw[HE.o];exact⟨qg,qc,ss4,rfl,HO7.o⟩,HB7.o⟩,HP7.o,HNE.o,by omega⟩⟩);case measure=>simp[intOf];omega
         ·(have hdm:decide (ps[n]∈newL (rowL o t (3*α+j)) (ps.take n))=false:=by simp[hmem]);(have HE:Q_ (newL (rowL o t (3*α+j)) (ps.take (n+1))=newL (rowL o t (3*α+j)) (ps.take n)++[ps[n]]):=H_ (by rw[s_ hnp,HNX.o,j_ hmem]);clear hmem HNX;rw[hdm];clear hdm;go_wp2_with (at_builtin;go_loud (refine za9 w7 rfl _ _ 119 rfl 22 () 1 24 underlying119 Υ rfl (by decide) (by decide) rfl HO7.o.1 1 [.slice pa6 ps[n].length pc6] rfl rfl (by intro u hu;simp only[b_] at hu;subst hu;rfl) rfl ?c1 ?c2 ?_)));case c1=>omega
          case c2=>omega
          intro v8 w8 ho8 hg8 hl8 _;replace hl8:v8.ownBlock=(Value.slice (some ⟨qg,0,none⟩) ss4 qc).ownBlock\/v8.ownBlock=some (w7.alloc (.cells #[.slice pa6 ps[n].length pc6] 22)).heap.size:=by rw[κ];exact hl8
          (have HJ:=H_ (Β.app HO7.o (by rw[<-HS6.o];exact HU7.o.lower (by omega) (by omega)) ho8 hg8);have HF8:=H_ (LLs.beside HO7.o HP7.o (by omega) HNE.o hg8 hl8);have hz8:=hg8.size;have hz8':(w7.alloc (.cells #[.slice pa6 ps[n].length pc6] 22)).heap.size=w7.heap.size+1:=κ _ _;have HB8:=H_ (δ HB7.o HJ.o.2 (le_ _) (by omega));obtain⟨y8,yc8,rfl⟩:=ζ ho8;clear ho8 hg8 hl8;go_wp2;go_roundw);(case rel=>exact⟨n+1,by omega,by go_num,H_ ⟨⟨by rw[HE.o];exact HJ.o.1,HB8.o⟩,HF8.o.1,HF8.o.2,by omega⟩⟩);case measure=>simp[intOf];omega
        ·(obtain rfl:n=sp.length:=by omega)
         have HAF:=H_ (show Β w wy (.slice (some ⟨qg,0,none⟩) ss4 qc) (rowL o t (3*α+(j+1)))/\Below w w wy from by
          have h:=HA.o.1;rw[HSL.o,F_,<-HMP.o]at h;exact h)
         clear HA HNI HSL HMP HOQ HLN;go_wp2;go_roundw
         (case rel=>exact⟨j+1,by omega,by go_num,HAF⟩);case measure=>simp[intOf];omega
      ·(obtain rfl:j=3:=by omega);go_wp2;go_roundw
       (case rel=>exact⟨α+1,by omega,by go_num,HA⟩);case measure=>simp[intOf];omega
    ·(obtain rfl:α=4:=by omega)
     have HLL:=H_ (show k+1<=(rowL o t 12).length from by
      obtain⟨h,_⟩:=HRP.o 12 (le_ _);omega)
     go_wp2;go_roundw
     (case rel=>exact⟨k+1,_,HLL.o,HRL.o 12 (le_ _),by go_num,H_ ⟨HA.o.1,HA.o.2,HRN.o,HRI.o 12 (le_ _)⟩⟩);case measure=>simp[intOf];omega
  ·obtain rfl:k=o.length:=by omega
   have HE:=H_ (show o=allV t0.post from by
    (have h:=HQ.o.2.2.1)
    rwa [show 60-o.length=(59-o.length)+1 by omega,allGo_done (le_ _)]at h)
   go_wp2;go_ret;exact η.mk _ rfl ⟨by rw[<-HE.o];exact HQ.o.1,HQ.o.2.1⟩
def zcm(e:List Int):List (List Int):=if μ e then allV e else []
theorem zvd(lo hi:Nat)(v:Value)(es:List Int)(w:World)(hx:SlI lo hi w v es)(hm:es.length<=1048576)(hh:hi<=w):
  Calls prog 159 #[v] w (η λv w'=>Β w w' v (zcm es)/\Below w w w'):=by
 obtain⟨a,cap,rfl,_,_⟩:=τ hx;have HX:=H_ hx;clear hx;cases hk:μ es with
 | true=>
  obtain⟨t,h1,h2,_,h4⟩:=zez hk;have HE:=H_ (show zcm es=allV t.post by rw[zcm,hk,l_ rfl,h2]);have HC:=H_ (zy0 lo hi (.slice a es cap) t w (by rw[h2];exact HX.o) hh h1 h4);clear h1 h2 h4
  go_enter func159,ntmps159
  go_wp2_with fail
  refine(zby _ _ _ es _ HX.o (by omega)).mono ?_;rintro e w1 ⟨rfl,rfl⟩;rw[hk];clear hk;go_wp2_with fail
  refine HC.o.mono ?_;rintro e w2 ⟨v2,rfl,h2,hb⟩;rw[<-HE.o]at h2;have HR:=H_ (And.intro h2 hb);obtain⟨g2,c2,rfl⟩:=h2.shape;clear hb h2;go_wp2;go_ret;exact η.mk _ rfl HR.o
 | false=>
  have HE:=H_ (show zcm es=[] by rw[zcm,hk];rfl)
  go_enter func159,ntmps159
  go_wp2_with fail
  refine(zby _ _ _ es _ HX.o (by omega)).mono ?_;rintro e w1 ⟨rfl,rfl⟩;rw[hk];clear hk;go_wp2;go_ret;exact η.mk _ rfl ⟨by rw[HE.o];exact zer _ _ (le_ _),ε _ _⟩
structure AUE(g:Nat)(w3 wr:World)(L:List (List Int))(k:Nat)(va vb:Value)(ss:List Value)(x:List Int):Prop where
 blk:Blk g (.cells #[va,vb] 123) wr
 ends:γ w3 wr 3 wr va ((L.take k).map endL++[endL x])
 next:LLs w3 wr wr vb ss ((L.take k).map (nextL L))
 far:∀ u∈ss,u.ownBlock=none\/u.ownBlock≠va.ownBlock
 o:β g (g+1) w3 wr
theorem AUE.go {wx:World}(h:AUE g w3 wr L k va vb ss x)(hb:Below wr wr wx):AUE g w3 wx L k va vb ss x:=
 ⟨h.blk.below hb h.blk.lt,(h.ends.below hb (le_ _)).lower (le_ _) hb.size,(h.next.below hb (le_ _)).lower (le_ _) hb.size,h.far,h.o.trans (β.of_below hb (le_ _))⟩
theorem AUI.endsE {w7 w9:World} {v9:Value}(h:AUI g w3 w7 L k va vb ss)(hg:g+1<=w3.heap.size)(hk:k<=L.length)
  (ho:Own 1 w3 w9 3 w9 v9 (k+1) (ints ((L.take k).map endL)++[.int .i64 (endL x)])) (hgr:(w7.alloc (.cells #[.int .i64 (endL x)] 3)).grownBy w9 va.ownBlock)
  (hl:v9.ownBlock=va.ownBlock\/v9.ownBlock=some (w7.alloc (.cells #[.int .i64 (endL x)] 3)).heap.size):AUE g w3 (w9.setCell (p_ g 0) v9) L k v9 vb ss x:=by
 have ha:=ε w7 (.cells #[.int .i64 (endL x)] 3);have hz:(w7.alloc (.cells #[.int .i64 (endL x)] 3)).heap.size=w7.heap.size+1:=κ _ _;have hz9:=hgr.size;have hO:=β.put g 0 w9 v9;have hzO:=hO.size;have h1:=h.go ha;have hsz3:=h.o.size;have hgo:=zbk hgr h1.ends.lt;refine⟨?_,?_,⟨?_,h.next.2.1,λi p1 p2=>?_⟩,λu hu=>?_,?_⟩
 ·exact(h1.blk.outside hgo (by omega)).put 0 v9
 ·have:=(show Own 1 w3 w9 3 w9 v9 (k+1) (ints ((L.take k).map endL++[endL x])) by rw[zan];exact ho)
  exact(γ.len this (by simp;omega)).outside hO (.inr hg) |>.lower (le_ _) hzO
 ·exact(((h1.next.1.keep hgr (zlm h1.next.1 h1.ends (by decide))).outside hO (.inr hg))).wide2 (le_ _) (by omega)
 ·exact(((h1.next.2.2 i p1 p2).keep hgr (h.far _ (k_ p1))).outside hO (.inr hg)).wide2 (le_ _) (by omega)
 ·rcases hl with e|e
  ·rw[e];exact h.far u hu
  ·obtain⟨i,hi,rfl⟩:=ae_ hu
   rw[e];cases hb:ss[i].ownBlock with
   | none=>exact .inl rfl
   | some j=>
    right
    have:=(h.next.2.2 i hi (by rw[<-h.next.2.1];exact hi)).2 j hb;simp;omega
 ·exact(h1.o.fresh hgo (le_ _)).trans hO
theorem AUE.row {wa:World} {row:Value}(h:AUE g w3 wa L k va vb ss x)(hb:Below wa wa wr)(hr:γ wa wr 3 wr row (nextL L x)):AUH g w3 wr L k va vb ss row x:=by
 have h1:=h.go hb;have hs:=h.o.size;refine⟨h1.blk,h1.ends,h1.next,h1.far,hr.lower hs (le_ _),?_,h1.o⟩;cases hub:row.ownBlock with
 | none=>exact .inl rfl
 | some j=>
  right
  intro e;have h2:=(hr.1.lt j hub);have h3:=h.ends.2 j e.symm;omega
noncomputable def zc1(L:List (List Int))(x:List Int)(m:Nat):List Int:=(List.range m).map λm=>((setL L x m:Nat):Int)
theorem ztc(L:List (List Int))(x:List Int)(m:Nat):zc1 L x (m+1)=zc1 L x m++[((setL L x m:Nat):Int)]:=by
 unfold zc1;rw[List.range_succ,as_];rfl
theorem zhd(L:List (List Int))(x:List Int)(m:Nat):(zc1 L x m).length=m:=by simp[zc1]
noncomputable def zd1(L:List (List Int))(x:List Int)(m j:Nat):Nat:=bitsN j λi=>L.getD i []∈moveP (Κ x) m
theorem zuj(hj:j<L.length)(h:L[j]∈moveP (Κ x) m):zd1 L x m (j+1)=zd1 L x m j+2 ^ j:=by
 unfold zd1;rw[bitsN,l_]
 rwa [show L.getD j []=L[j] by simp[List.getD,c_ hj]]
theorem z03(hj:j<L.length)(h:L[j] ∉ moveP (Κ x) m):zd1 L x m (j+1)=zd1 L x m j:=by
 unfold zd1;rw[bitsN,j_]
 ·rfl
 ·rwa [show L.getD j []=L[j] by simp[List.getD,c_ hj]]
theorem zpv(L:List (List Int))(x:List Int)(m j:Nat):zd1 L x m j<2 ^ j:=bitsN_lt _ _
theorem zzz(e:List Int)(h:(zcm e).length<=10):autV e=⟨(zcm e).map endL,(zcm e).map (nextL (zcm e))⟩:=by
 unfold autV;unfold zcm at h ⊢;cases hk:μ e
 ·simp
 ·rw[hk,l_ rfl]at h
  rw[l_ (by simp[h])];simp
theorem zt7(e:List Int)(h:¬(zcm e).length<=10):autV e=⟨[],[]⟩:=by
 unfold autV;unfold zcm at h;cases hk:μ e
 ·simp
 ·rw[hk,l_ rfl]at h
  rw[j_ (by simp[h])]
theorem zyq {e:List Int}:∀ x∈zcm e,∃ t:KT,t=Κ x/\t.post=x/\t.ok 0=true/\t.size<=1640:=by
 intro x hx;unfold zcm at hx
 split at hx
 ·rename_i hv
  obtain⟨t0,h1,h2,_,h4⟩:=zez hv;have hA:=allV_all h1 h4;rw[h2]at hA;obtain⟨q,c1,c2⟩:=hA.cl.mem _ hx;have hq:=(Cl.kept h1).ok c1;refine⟨q,?_,c2,hq,Cl.size c1 h4⟩;rw[<-c2,zdk hq]
 ·cases hx
theorem zg5(lo hi:Nat)(v:Value)(e:List Int)(w:World)(hx:SlI lo hi w v e)(hh:hi<=w)(hm:e.length<=1048576):
  Calls prog 111 #[v] w (η λv' w'=>AuW w w' w' v' (autV e)/\Below w w w'):=by
 have⟨w0,hw0⟩:=xa_ w #[(),()] 123;have HB:Q_ (Below w w w0):=by rw[hw0];exact H_ ((B_ _ _).alloc (le_ _) _)
 have K1:Q_ (Blk w (.cells #[(),()] 123) w0):=by rw[hw0];exact H_ (θ w _)
 have hsz:w0=w.heap.size+1:=by rw[hw0];simp
 have⟨hz1,hz2⟩:w+1<=w0.heap.size/\w0<=w.heap.size+1:=by omega
 have HX:=H_ (hx.below HB.o hh);obtain⟨a,cap,rfl,hcap,hcm⟩:=τ hx;clear hx hsz
 go_enter func111,ntmps111
 go_wp2_with fail
 simp only[<-hw0];clear hw0;refine(zvd _ _ _ e w0 HX.o hm (by omega)).mono ?_;rintro e2 w2 ⟨v2,rfl,hl2,hb2⟩;have hz2':=hb2.size;obtain⟨lg,lc,sl,rfl,hl⟩:=hl2;have HSL:=H_ hl.2.1;have HL:=H_ hl;have HB2:=HB.tr hb2 (by omega);have K2:=H_ (K1.o.below hb2 (by omega));have HA1:=H_ (zzz e);have HA2:=H_ (zt7 e);have HTR:=H_ (λk (hk:k<(zcm e).length)=>zyq _ (k_ hk));have⟨L,hL⟩:=ex_ (zcm e);rw[<-hL]at HL HSL HA1 HA2 HTR
 have HLX:=H_ (show ∀ wz,Below w2 w2 wz->∀ j (h1:j<sl.length) (h2:j<L.length),∃ pa pc,lg<wz.heap.size/\wz.cell? (p_ lg j)=some (.slice pa L[j].length pc)/\SlI w0 w2 wz (.slice pa L[j].length pc) L[j] from λwz hb j h1 h2=>by
  obtain⟨g,e,_,_,hg,hc,hu⟩:=(HL.o.below hb (le_ _)).at j h1 h2;injection e with e;injection e with e;subst e;obtain⟨pa,pc,hs⟩:=ζ hu;rw[hs]at hc hu;exact⟨pa,pc,hg,hc,hu.sl⟩)
 have⟨w3,hw3⟩:=xa_ w2 #[(),()] 123;have hz3:w3=w2.heap.size+1:=by rw[hw3];simp
 have HB3:Q_ (Below w2 w2 w3):=by rw[hw3];exact H_ (ε _ _)
 have⟨hz3a,hz3b⟩:w2+1<=w3.heap.size/\w3<=w2.heap.size+1:=by omega
 have HI:Q_ (AUI w2 w3 w3 L 0 () () []):=by
  refine H_ ⟨?_,Ξ _ _ _ _ _,ze7 _ _ _,λu hu=>by simp at hu,β.refl _ _ _⟩;rw[hw3];exact θ w2 _
 clear hl hb2 hL hz3;by_cases h10:sl.length<=10
 ·have hd10:decide ((sl.length:Int)<=10)=true:=by simp;omega
  go_wp2_with fail
  simp only[<-hw3];clear hw3;go_loopw [5] (λi wr=>∃ (k:Nat) (va vb:Value) (ss:List Value),k<=sl.length/\i=.int .i64 k/\Q_ (AUI w2 w3 wr L k va vb ss)) (λi _=>sl.length-(intOf i).toNat)
  case atStart=>exact⟨0,_,_,_,by omega,rfl,HI⟩
  case round=>
   rename World=>wk
   clear HI;obtain⟨k,va,vb,ss,hk,rfl,HI⟩:=hrel;have hzk:=HI.o.o.size;have HBk:=H_ (δ HB3.o HI.o.o (le_ _) (by omega));by_cases hlt:k<sl.length
   ·(have hkL:k<L.length:=by rw[<-HSL.o];exact hlt);(obtain⟨pa6,pc6,hg6,hc6,hu6⟩:=HLX.o wk HBk.o k hlt hkL;have HU6:=H_ hu6;clear hu6;obtain⟨t,ht,hpo,hok,hts⟩:=HTR.o k hkL;have HT:=H_ ht;have HPO:=H_ hpo;have HOK:=H_ hok;clear ht hpo hok)
    have HEN:Q_ (∀ w',Below wk wk w'->Calls prog 110 #[.slice pa6 L[k].length pc6] w' λe w''=>e=.returned (.int .i64 (endL L[k]))/\Below w'.heap.size w' w''):=H_ λw' hb'=>(zkm t _ _ _ w' (by rw[HPO.o];exact HU6.o.below hb' (by omega)) HOK.o (by omega) (by have:=hb'.size;omega)).mono (by
     rintro e w'' ⟨rfl,h⟩;exact⟨by rw[endL,<-HT.o],h⟩)
    (have c0:=HI.o.blk.cell 0;have c0':=HI.o.blk.drew.cell 0;have⟨hkl,hk41⟩:k<=L.length/\k<=41:=by omega);(have hg3:w2+1<=w3.heap.size:=hz3a;have hzx:wk.drew.heap.size=wk.heap.size:=rfl;have hc6':wk.drew.cell? (p_ lg k)=some (.slice pa6 L[k].length pc6):=hc6;go_upto_region 6 with fail);go_cut [] (λwx=>∃ v9:Value,Q_ (AUE w2 w3 wx L k v9 vb ss L[k]))
    case first=>
     go_region_law (first
      | (go_simp;go_at_call 110;refine(HEN.o wk.drew (n_ (B_ _ _))).mono ?_;rintro e7 w7 ⟨rfl,hb7_⟩;(have hz7:=hb7_.size);(have hb7:Below wk wk w7:=(n_ (B_ _ _)).trans (hb7_.mono (le_ _)));(have HI7:=H_ (HI.o.go hb7));(have c7:=HI7.o.blk.cell 0);(have c7':=(HI7.o.blk.al (x:=.cells #[.int .i64 (endL L[k])] 3)).cell 0);(have L7:Q_ (Sl 1 w7 (w7+1) (w7.alloc (.cells #[.int .i64 (endL L[k])] 3)) (.slice (some ⟨w7,0,none⟩) 1 1) 1 [.int .i64 (endL L[k])]):=H_ (π 1 3 w7 [.int .i64 (endL L[k])] 1 (by omega) rfl).sl);(have HE7:=H_ ((HI7.o.go (ε w7 (.cells #[.int .i64 (endL L[k])] 3))).endsK hkl));clear hb7_ hb7)
      | (refine zid (by rfl) _ _ 22 (by rfl) 3 (0:Int) 1 8 underlying22 Δ (by rfl) (by decide) (by decide) (by rfl) HE7.o (by rfl) L7.o (by intro u hu;simp only[b_] at hu;subst hu;rfl) (by omega) (by omega) (by simp only[κ];omega) ?_;intro v9 w9 ho9 hg9 hl9;obtain⟨y9,yc9,rfl⟩:=ζ ho9;(have k9:=HI7.o.blk9 hg3 hg9);(have c9:=k9.cell 0);(have f9:=k9.free 0);(have HH:=H_ (AUI.endsE HI7.o hg3 hkl ho9 hg9 hl9));clear ho9 hg9 hl9 k9))
     all_goals (
      go_wp2_with fail
      go_meet
      exact⟨_,HH⟩)
    case rest=>
     (obtain⟨ve,HH⟩:=hcut;obtain⟨wa,rfl⟩:=ex_ wc;have hza:=HH.o.o.size;have HBA:=H_ (δ HB3.o HH.o.o (le_ _) (by omega));clear c0 c0' hc6' hzx HI HEN)
     have HR0:Q_ (γ wa (wa.alloc (.cells #[] 3)).heap.size 3 (wa.alloc (.cells #[] 3)) (.slice (some ⟨wa,0,none⟩) 0 0) (zc1 L L[k] 0)/\Below wa wa (wa.alloc (.cells #[] 3))):=H_ ⟨by
      rw[κ];exact π 1 3 wa (ints []) 0 (by omega) rfl,ε _ _⟩
     go_wp2;go_loopw [6,7] (λr i wx=>∃ m:Nat,m<=12/\i=.int .i64 m/\Q_ (γ wa wx 3 wx r (zc1 L L[k] m)/\Below wa wa wx)) (λ_ i _=>12-(intOf i).toNat)
     case atStart=>exact⟨0,by omega,rfl,HR0⟩
     case round=>
      rename World=>wx
      clear HR0;obtain⟨m,hm12,rfl,HR⟩:=hrel;obtain⟨ra,rc,hrs⟩:=ζ HR.o.1;subst hrs;rw[zhd];have hzx:=HR.o.2.size;by_cases hltm:m<12
      ·(have hdm:decide ((m:Int)<12)=true:=by simp;omega);(have HBX:=H_ (HBA.o.trans (HR.o.2.mono (by omega)));have hwx2:=HBX.o.size;obtain⟨pa7,pc7,hg7,hc7,hu7⟩:=HLX.o wx HBX.o k hlt hkL;have HU7:=H_ hu7;have HMQ:=H_ (show (m:Int)/3=((m/3:Nat):Int)/\(16:Int)+(m:Int)%3=16+((m%3:Nat):Int) from ⟨by omega,by omega⟩);have HMP:=H_ (show moveP (Κ L[k]) m=partsV t (m/3) (16+((m%3:Nat):Int)) from by rw[<-HT.o];rfl);have hm3:m/3<4:=by omega);clear hu7;go_wp2_with fail
       rw[HMQ.o.1,HMQ.o.2];refine(zfs t _ _ _ wx (m/3) (16+((m%3:Nat):Int)) (by rw[HPO.o];exact HU7.o) HOK.o (by omega) hm3 (by omega) (by omega) (by omega)).mono ?_;rintro e5 w5 ⟨v5,rfl,h5,hb5⟩;rw[<-HMP.o]at h5;have hz5:=hb5.size;obtain⟨bigP,lnP⟩:=zfx HOK.o (by omega) (α:=m/3) (c:=16+((m%3:Nat):Int)) (by omega);rw[<-HMP.o]at bigP lnP;have HBP:=H_ bigP;obtain⟨g5,c5,rfl⟩:=h5.shape;have H5:=H_ h5.sl
       have HR5:=H_ (show γ wa w5 3 w5 (.slice ra m rc) (zc1 L L[k] m)/\Below wa wa w5 from ⟨by
        have h:=(HR.o.1.below hb5 (le_ _)).lower (le_ _) hz5;rw[zhd]at h;exact h,HR.o.2.trans (hb5.mono (by omega))⟩)
       (have HS0:=H_ (show ((zd1 L L[k] m 0:Nat):Int)=0 from rfl);clear bigP h5 hb5 hc7 hg7 HU7 HMQ HMP HR;go_wp2;go_loopw [8,10] (λs i wy=>∃ j:Nat,j<=sl.length/\i=.int .i64 j/\s=.int .i64 ((zd1 L L[k] m j:Nat):Int)/\Q_ (Below w5 w5 wy)) (λ_ i _=>sl.length-(intOf i).toNat));case atStart=>exact⟨0,by omega,rfl,by rw[HS0.o],H_ (B_ _ _)⟩
       case round=>
        rename World=>wy
        obtain⟨j,hj,rfl,rfl,HY⟩:=hrel;have hzy:=HY.o.size;have HBY:=H_ ((HBA.o.trans (HR5.o.2.mono (by omega))).trans (HY.o.mono (by omega)));by_cases hltj:j<sl.length
        ·(have hjL:j<L.length:=by rw[<-HSL.o];exact hltj);(obtain⟨pa8,pc8,hg8,hc8,hu8⟩:=HLX.o wy HBY.o j hltj hjL;have HU8:=H_ hu8;have hsj:=zpv L L[k] m j;have hp2:(2:Nat) ^ j<=2 ^ 9:=Y_ (by omega) (by omega);have HSI:=H_ (λh:L[j]∈moveP (Κ L[k]) m=>zuj hjL h);have HSO:=H_ (λh:L[j] ∉ moveP (Κ L[k]) m=>z03 hjL h);have pw:=zo1 (k:=j) (by omega);have⟨S,hS⟩:=ex_ (zd1 L L[k] m j);obtain⟨K,hK⟩:∃ K:Nat,K=2 ^ j:=⟨_,rfl⟩;have⟨P,hP⟩:=ex_ (moveP (Κ L[k]) m);rw[<-hS,<-hK]at hsj HSI;rw[<-hS]at HSO ⊢;rw[<-hK]at hp2 pw;rw[<-hP]at HSI HSO H5 HBP lnP ⊢;have HLJ:=H_ ((HTR.o j hjL).choose_spec))
         have hlj:L[j].length<=16777216:=by
          have h:=HLJ.o;rw[<-h.2.1,zar];omega
         clear hu8 hS hK hP HLJ;go_wp2_with fail
         refine(zo2 _ _ _ _ _ _ P L[j] wy (H5.o.below HY.o (le_ _)) HU8.o hzy (by omega) (by omega) (λy hy=>by have:=HBP.o y hy;omega) hlj).mono ?_;rintro e9 w9 ⟨rfl,hb9⟩;have HY9:=HY.tr hb9 hzy;clear hb9 hc8 hg8;by_cases hmem:L[j]∈P
         ·(have hdm:decide (L[j]∈P)=true:=by simp[hmem]);(have HN:=H_ (HSI.o hmem);rw[hdm];clear hdm hmem;go_wp2;go_roundw);(case rel=>exact⟨j+1,by omega,by go_num,by rw[HN.o];rfl,HY9⟩);case measure=>simp[intOf];omega
         ·(have hdm:decide (L[j]∈P)=false:=by simp[hmem]);(have HN:=H_ (HSO.o hmem);rw[hdm];clear hdm hmem;go_wp2;go_roundw);(case rel=>exact⟨j+1,by omega,by go_num,by rw[HN.o],HY9⟩);case measure=>simp[intOf];omega
        ·(obtain rfl:j=sl.length:=by omega);(have HSF:=H_ (show zd1 L L[k] m sl.length=setL L L[k] m by rw[HSL.o];rfl);have hsz:=zpv L L[k] m sl.length;have HRY:=H_ (show γ wa wy 3 wy (.slice ra m rc) (zc1 L L[k] m)/\Below wa wa wy from ⟨(HR5.o.1.below HY.o (le_ _)).lower (le_ _) hzy,HR5.o.2.trans (HY.o.mono (by omega))⟩);have hzwy:=HRY.o.2.size)
         have hown:Own 1 wa wy 3 wy (.slice ra m rc) m (ints (zc1 L L[k] m)):=by
          (have h:Own 1 wa wy 3 wy (.slice ra m rc) (zc1 L L[k] m).length (ints (zc1 L L[k] m)):=HRY.o.1)
          rwa [zhd]at h
         (have HOW:=H_ hown;clear hown;rw[HSF.o];go_wp2_with (at_builtin;go_loud (refine za9 wy rfl _ _ 22 rfl 3 (0:Int) 1 8 underlying22 Δ rfl (by decide) (by decide) rfl HOW.o 1 [.int .i64 ((setL L L[k] m:Nat):Int)] rfl rfl (by intro u hu;simp only[b_] at hu;subst hu;rfl) rfl ?c1 ?c2 ?_)));case c1=>omega
         case c2=>omega
         intro v10 w10 ho10 hg10 hl10 hout10
         have HR10:=H_ (show γ wa w10 3 w10 v10 (zc1 L L[k] (m+1))/\Below wa wa w10 from by
          have hz:(wy.alloc (.cells #[.int .i64 ((setL L L[k] m:Nat):Int)] 3)).heap.size=wy.heap.size+1:=κ _ _;refine⟨γ.len (show Own 1 wa w10 3 w10 v10 (m+1) (ints (zc1 L L[k] (m+1))) by rw[ztc,zan];exact ho10) (by rw[zhd]),?_⟩;have ha:=ε wy (.cells #[.int .i64 ((setL L L[k] m:Nat):Int)] 3);exact δ (HRY.o.2.trans (ha.mono hzwy)) (zbk hg10 (HOW.o.alloc (.cells #[.int .i64 ((setL L L[k] m:Nat):Int)] 3)).lt) (le_ _) (by omega))
         (obtain⟨y10,yc10,rfl⟩:=ζ ho10;clear ho10 hg10 hl10 hout10;go_wp2;go_roundw);(case rel=>exact⟨m+1,by omega,by go_num,HR10⟩);case measure=>simp[intOf];omega
      ·(obtain rfl:m=12:=by omega)
       have HROW:=H_ (AUE.row HH.o HR.o.2 (show γ wa wx 3 wx (.slice ra 12 rc) (nextL L L[k]) from by
        have h:=HR.o.1;rw[zhd]at h;exact h))
       (have hss:ss.length<=41:=by have:=HH.o.next.2.1;simp at this;omega);(have c1:=HROW.o.blk.cell 1;obtain⟨za,zc,rfl⟩:=ζ HROW.o.next.1;have hg3b:w3<=wx.heap.size:=by omega);go_wp2_with (at_builtin;go_loud (refine za9 wx rfl _ _ 119 rfl 22 () 1 24 underlying119 Υ rfl (by decide) (by decide) rfl HROW.o.next.1 1 [.slice ra 12 rc] rfl rfl (by intro u hu;simp only[b_] at hu;subst hu;rfl) rfl ?c1 ?c2 ?_))
       case c1=>omega
       case c2=>exact hg3b
       intro v12 w12 ho12 hg12 hl12 _;obtain⟨y12,yc12,rfl⟩:=ζ ho12;have k12:=HROW.o.blk9 hg3 hg12;have c12:=k12.cell 1;have f12:=k12.free 1;have HI13:=H_ (AUH.nextPut hkL HROW.o hg3 ho12 hg12);clear ho12 hg12 hl12 k12;go_wp2;go_roundw
       (case rel=>exact⟨k+1,_,_,_,by omega,by go_num,HI13⟩);case measure=>simp[intOf];omega
   ·(obtain rfl:k=sl.length:=by omega);(obtain⟨za,zc,rfl⟩:=ζ (HI.o.endsK (by rw[<-HSL.o];exact le_ _));obtain⟨zb,zbc,rfl⟩:=ζ HI.o.next.1;have KR:=H_ (K2.o.below HBk.o (by omega));obtain⟨c0,c1⟩:=HI.o.blk.c2;have⟨d0,d1⟩:=KR.o.c2;have⟨f0,f1⟩:=KR.o.f2;go_wp2;have⟨wz,hwz⟩:=x2_ wk w (.slice za sl zc) (.slice zb ss zbc);have KZ:=KR.o.au2 (.slice za sl zc) (.slice zb ss zbc);have HO:=β.set2' w wk (.slice za sl zc) (.slice zb ss zbc);rw[<-hwz]at KZ HO;simp only[<-hwz];obtain⟨q0,q1⟩:=KZ.c2;refine a_ (v:=.agg #[.slice za sl zc,.slice zb ss zbc]) (by simp[results,results111,go_sem,q0,q1]) rfl (η.mk _ rfl ⟨?_,δ (HB2.o.trans (HBk.o.mono (by omega))) HO (le_ _) (by omega)⟩);have e2:L.take sl.length=L:=by rw[HSL.o,F_]);have n1:=HI.o.ends;have n2:=HI.o.next;rw[e2]at n1 n2;rw[HA1.o (by rw[<-HSL.o];exact h10)];exact⟨_,_,ss,rfl,(n1.outside HO (.inr (by omega))).lower (by omega) HO.size,(n2.outside HO (.inr (by omega))).lower (by omega) HO.size⟩
 ·have hd10:decide ((sl.length:Int)<=10)=false:=by simp;omega
  have hpos:decide ((0:Int)<(sl.length:Int))=true:=by simp;omega
  go_wp2_with fail
  simp only[<-hw3];clear hw3;have HW:=H_ (B_ w3 w3);go_loopw [5] (λi wr=>i=.int .i64 0/\Q_ (Below w3 w3 wr)) (λi _=>0)
  case atStart=>exact⟨rfl,HW⟩
  case round=>
   rename World=>wk
   obtain⟨rfl,HW'⟩:=hrel;have HBk:=HB3.tr HW'.o (by omega);have hzk:=HBk.o.size;have KR:=H_ (K2.o.below HBk.o (by omega));have KI:=H_ (HI.o.blk.below HW'.o HI.o.blk.lt);have⟨c0,c1⟩:=KI.o.c2;have⟨d0,d1⟩:=KR.o.c2;have⟨f0,f1⟩:=KR.o.f2;go_wp2;have⟨wz,hwz⟩:=x2_ wk w () ();have KZ:=KR.o.au2 () ();have HO:=β.set2' w wk () ();rw[<-hwz]at KZ HO;simp only[<-hwz];obtain⟨q0,q1⟩:=KZ.c2;refine a_ (v:=.agg #[(),()]) (by simp[results,results111,go_sem,q0,q1]) rfl (η.mk _ rfl ⟨?_,δ (HB2.o.trans (HBk.o.mono (by omega))) HO (le_ _) (by omega)⟩);rw[HA2.o (by rw[<-HSL.o];exact h10)];exact AuW.nils _ _ _
end Go.Proofs.YtfnnhimopokpnaaGreatDoor
