/- Lemmas for this seat; no condition. -/
import Derived.Test.YtfnnhimopokpnaaGreatDoorHBAJ
import Derived.Test.YtfnnhimopokpnaaGreatDoorHBAK
namespace Go.Proofs.YtfnnhimopokpnaaGreatDoor
open Go.RowKit Proofs.Tryz
set_option maxRecDepth 100000
set_option maxHeartbeats 0
set_option linter.all false
variable {D:Dsk} {l:List UInt8} {lo hi n B lo' hi' e R A:Nat} {w w':World} {v:Value}
def zhs:List UInt8:=[110,111,110,101]
def zec:List UInt8:=[121,101,115]
def noT:List UInt8:=[110,111]
def zkz:List UInt8:=[111,112,101,110]
def zk1:List UInt8:=[119,104,97,116]
def eqT(i:Int):List UInt8:=if i=1 then zec else if i=0 then noT else zkz
def zco:List Mv->List UInt8
 | []=>zhs
 | m :: r=>r.foldl (λs x=>s++44 :: Α x) (Α m)
def difT:Option (List Int)->List UInt8
 | some t=>zeq t
 | none=>zhs
noncomputable def zaa(D:Dsk)(l:List UInt8):List UInt8:=
 if l=[110,111,119] then zbr D.now
 else if l=[102,105,114,115,116] then zbr D.first
 else if l=[103,111,97,108] then zbr D.goal
 else if l=[109,111,118,101,115] then Γ D.made.length
 else if l=[100,111,110,101] then (if eqL D.now D.goal then zec else noT)
 else if l=[101,113,117,97,108] then eqT (equalV D.now D.goal)
 else if l=[101,110,100,115] then Ρ (endsK (Κ D.now))
 else if l=[116,114,97,99,101] then difT (differV D.now D.goal)
 else if l=[112,114,111,111,102] then zco D.made
 else zk1
structure NoQ(l:List UInt8):Prop where
 q1:l≠[110,111,119]
 q2:l≠[102,105,114,115,116]
 q3:l≠[103,111,97,108]
 q4:l≠[109,111,118,101,115]
 q5:l≠[100,111,110,101]
 q6:l≠[101,113,117,97,108]
 q7:l≠[101,110,100,115]
 q8:l≠[116,114,97,99,101]
 q9:l≠[112,114,111,111,102]
theorem zot(h:NoQ l):zaa D l=zk1:=by
 unfold zaa;rw[j_ h.q1,j_ h.q2,j_ h.q3,j_ h.q4,j_ h.q5,j_ h.q6,j_ h.q7,j_ h.q8,j_ h.q9]
theorem zo7(l:List UInt8):l=[110,111,119]\/l=[102,105,114,115,116]\/l=[103,111,97,108]\/l=[109,111,118,101,115]\/l=[100,111,110,101]\/l=[101,113,117,97,108]\/l=[101,110,100,115]\/l=[116,114,97,99,101]\/l=[112,114,111,111,102]\/NoQ l:=by
 by_cases h1:l=[110,111,119]
 ·exact .inl h1
 by_cases h2:l=[102,105,114,115,116]
 ·exact .inr (.inl h2)
 by_cases h3:l=[103,111,97,108]
 ·exact .inr (.inr (.inl h3))
 by_cases h4:l=[109,111,118,101,115]
 ·exact .inr (.inr (.inr (.inl h4)))
 by_cases h5:l=[100,111,110,101]
 ·exact .inr (.inr (.inr (.inr (.inl h5))))
 by_cases h6:l=[101,113,117,97,108]
 ·exact .inr (.inr (.inr (.inr (.inr (.inl h6)))))
 by_cases h7:l=[101,110,100,115]
 ·exact .inr (.inr (.inr (.inr (.inr (.inr (.inl h7))))))
 by_cases h8:l=[116,114,97,99,101]
 ·exact .inr (.inr (.inr (.inr (.inr (.inr (.inr (.inl h8)))))))
 by_cases h9:l=[112,114,111,111,102]
 ·exact .inr (.inr (.inr (.inr (.inr (.inr (.inr (.inr (.inl h9))))))))
 exact .inr (.inr (.inr (.inr (.inr (.inr (.inr (.inr (.inr ⟨h1,h2,h3,h4,h5,h6,h7,h8,h9⟩))))))))
def okT(b:Bool):List UInt8:=if b then [111,107] else [110,111]
noncomputable def zf6(D:Dsk)(l:List UInt8):Dsk × List UInt8:=
 match za7 l with
 | some A=>((Φ D A).1,okT (Φ D A).2)
 | none=>(D,zaa D l)
noncomputable def zav(D:Dsk)(l:List UInt8):Dsk × List UInt8:=if ω D then zf6 D l else (Dsk.none,[])
theorem z06(D:Dsk)(l:List UInt8):(zav D l).1.size<=180:=by
 unfold zav;cases h:ω D
 ·simp[Dsk.none,Dsk.size]
 ·simp only[ds_]
  unfold zf6;cases za7 l with
  | none=>exact zh8 h
  | some A=>exact zh8 (zrx A h)
theorem zyj(l:List UInt8)(h:ω D=true):ω (zav D l).1=true:=by
 unfold zav;rw[h];simp only[ds_];unfold zf6;cases za7 l with
 | none=>exact h
 | some A=>exact zrx A h
noncomputable def zd7(p:Dsk × List (List UInt8))(l:List UInt8):Dsk × List (List UInt8):=((zav p.1 l).1,p.2++[(zav p.1 l).2])
noncomputable def zcr(D:Dsk)(ls:List (List UInt8)):Dsk × List (List UInt8):=ls.foldl zd7 (D,[])
noncomputable def zcd(D:Dsk)(ls:List (List UInt8)):Dsk × List (List UInt8):=if ω D=true/\ls.length<=40 then zcr D ls else (Dsk.none,[])
theorem zp2(D:Dsk)(ls:List (List UInt8))(k:Nat)(h:k<ls.length):zcr D (ls.take (k+1))=zd7 (zcr D (ls.take k)) ls[k]:=by
 rw[s_ h,zcr,co_];rfl
theorem zry(p:Dsk × List (List UInt8)):∀ ls:List (List UInt8),(ls.foldl zd7 p).2.length=p.2.length+ls.length
 | []=>rfl
 | l :: r=>by
  rw[dp_,zry,zd7,i_,y_,y_,O_];omega
theorem ztb(D:Dsk)(ls:List (List UInt8)):(zcr D ls).2.length=ls.length:=by rw[zcr,zry];simp
theorem znw:∀ (ls:List (List UInt8)) (p:Dsk × List (List UInt8)),ω p.1=true->ω (ls.foldl zd7 p).1=true
 | [],_,h=>h
 | l :: r,p,h=>znw r (zd7 p l) (zyj l h)
theorem zkp(h:ω D=true)(ls:List (List UInt8)):ω (zcr D ls).1=true:=znw ls (D,[]) h
theorem zwj(D:Dsk)(ls:List (List UInt8)):(zcd D ls).1.size<=180:=by
 unfold zcd
 split
 ·rename_i h
  exact zh8 (zkp h.1 ls)
 ·simp[Dsk.none,Dsk.size]
theorem zu1(D:Dsk)(ls:List (List UInt8)):(zcd D ls).2.length<=ls.length:=by
 unfold zcd
 split
 ·rw[ztb];exact le_ _
 ·simp
def zag(l:List (List UInt8)):List Value:=l.map λx=>.string ⟨x.toArray⟩
theorem zfh(l:List (List UInt8)):(zag l).length=l.length:=by simp[zag]
theorem ziz(l m:List (List UInt8)):zag (l++m)=zag l++zag m:=by simp[zag]
abbrev SlT(lo hi:Nat)(w:World)(v:Value)(xs:List (List UInt8)):Prop:=Sl 1 lo hi w v xs.length (zag xs)
theorem SlT.get {cap:Nat} {a:Option Addr} {xs:List (List UInt8)}(h:SlT lo hi w (.slice a n cap) xs)(i:Nat)(hi':i<xs.length):
  ∃ b off,a=some ⟨b,off,none⟩/\lo<=b/\b<hi/\b<w.heap.size/\w.cell? (p_ b (off+i))=some (.string ⟨xs[i].toArray⟩):=by
 obtain⟨a',cap',e,_,_,_,_,hc⟩:=h;injection e with e1 _ _;subst e1;obtain⟨b,off,e2,k1,k2,k3,k4⟩:=hc i (by rw[zfh];exact hi');exact⟨b,off,e2,k1,k2,k3,by rw[k4];simp[zag,hi']⟩
def zf3:=@SlT.get
def zf8:List (List UInt8)->List UInt8
 | []=>[]
 | x :: r=>r.foldl (λs y=>s++44 :: y) x
theorem zs6(l:List (List UInt8))(hm:∀ x∈l,x.length<=1000):(zf8 l).length<=1001*l.length:=by
 cases l with
 | nil=>simp[zf8]
 | cons x r=>
  have h1:=hm x (by simp)
  have h:∀ (r:List (List UInt8)) (s:List UInt8),(∀ y∈r,y.length<=1000)->(r.foldl (λs y=>s++44 :: y) s).length<=s.length+1001*r.length:=by
   intro r
   induction r with
   | nil=>intro s _;simp
   | cons y r ih=>
    intro s hy;have k1:=hy y (by simp);have k2:=ih (s++44 :: y) λz hz=>hy z (by simp[hz])
    simp only[dp_,y_,i_]at k2 ⊢;omega
  have:=h r x λy hy=>hm y (by simp[hy])
  simp only[zf8,y_];omega
theorem zqz(l:List (List UInt8)):Lib.join l [44]=zf8 l:=by
 cases l with
 | nil=>rfl
 | cons x r=>
  have h:∀ (r:List (List UInt8)) (s:List UInt8),Lib.join (s :: r) [44]=r.foldl (λs y=>s++44 :: y) s:=by
   intro r
   induction r with
   | nil=>intro s;simp[Lib.join]
   | cons y r ih=>
    intro s;rw[dp_,<-ih];cases r<;>simp[Lib.join]
  exact h r x
theorem zte(lo hi n cap:Nat)(a:Option Addr)(xs:List (List UInt8))(w:World)(hx:SlT lo hi w (.slice a n cap) xs)(h0:xs≠[])(hl:xs.length<=100)(hm:∀ x∈xs,x.length<=1000):
  Calls prog 94 #[.slice a n cap,.string ⟨#[44]⟩] w λe w'=>e=.returned (.string ⟨(zf8 xs).toArray⟩)/\Below w w w':=by
 obtain⟨_,_,hq,hn,_⟩:=τ hx;injection hq with _ q1 q2;subst q1 q2;have hpos:0<xs.length:=by cases xs with | nil=>exact absurd rfl h0 | cons=>simp
 obtain⟨b,o,rfl,_,_,hb,_⟩:=hx.get 0 hpos
 have e1:((xs.map λx=>(⟨x.toArray⟩:ByteArray)).map λz=>z.data.toList)=xs:=by
  rw[List.map_map];exact(List.map_congr_left (g:=id) λx _=>by simp).trans (List.map_id _)
 have h:=Tryz.strings_Join b o cap (xs.map λx=>⟨x.toArray⟩) ⟨#[44]⟩ w (λj x hj=>by
  rw[b3_]at hj;obtain⟨y,hy,rfl⟩:=L_.1 hj;obtain⟨hjl,rfl⟩:=ar_.1 hy;obtain⟨b',o',e,_,_,_,hc⟩:=hx.get j hjl;injection e with e;injection e with e2 e3;subst e2 e3
  exact hc) hb (by simp;omega) (by simpa using hn) (by
   rw[e1];have:=zs6 xs hm;rw[show (⟨#[44]⟩:ByteArray).data.toList=[44] from rfl,zqz];omega)
 rw[e1,show (⟨#[44]⟩:ByteArray).data.toList=[44] from rfl,zqz,E_]at h;exact h
def zbx(xs:List (List UInt8)):Nat:=(xs.map List.length).sum
theorem zox(xs:List (List UInt8))(k:Nat)(h:k<xs.length):zbx (xs.take (k+1))=zbx (xs.take k)+xs[k].length:=by
 rw[s_ h,zbx,as_,List.sum_append];simp[zbx]
theorem zr5(xs:List (List UInt8)):∀ k,zbx (xs.take k)<=zbx xs:=λk=>by
 have h:=congrArg zbx (ad_ k xs);unfold zbx at h ⊢;rw[as_,List.sum_append]at h;omega
theorem zuh(xs:List (List UInt8)):∀ x∈xs,x.length<=zbx xs:=λx hx=>by
 obtain⟨k,hk,rfl⟩:=ae_ hx;have h1:=zox xs k hk;have h2:=zr5 xs (k+1);omega
theorem zng(xs:List (List UInt8))(i:Nat)(h:i<xs.length):(zag xs)[i]?=some (.string ⟨xs[i].toArray⟩):=by simp[zag,h]
theorem SlT.below {xs:List (List UInt8)}(h:SlT lo hi w v xs)(hb:Below B w w')(hB:hi<=B):SlT lo hi w' v xs:=zdg h hb hB
def zb9:=@SlT.below
theorem SlT.outside {xs:List (List UInt8)}(h:SlT lo hi w v xs)(hb:β lo' hi' w w')(hd:hi<=lo'\/hi'<=lo):SlT lo hi w' v xs:=zhf h hb hd
def zg4:=@SlT.outside
theorem SlT.wide {xs:List (List UInt8)}(h:SlT lo hi w v xs)(h1:lo'<=lo)(h2:hi<=hi'):SlT lo' hi' w v xs:=zgr h h1 h2
theorem SlT.shape {xs:List (List UInt8)}(h:SlT lo hi w v xs):∃ a cap,v=.slice a xs cap/\xs.length<=cap/\cap<=maxLen:=τ h
def Τ(lo hi e:Nat)(w:World)(v:Value)(xs:List (List UInt8)):Prop:=Own 1 lo hi e w v xs.length (zag xs)
theorem Τ.sl {xs:List (List UInt8)}(h:Τ lo hi e w v xs):SlT lo hi w v xs:=zce h
theorem Τ.below {xs:List (List UInt8)}(h:Τ lo hi e w v xs)(hb:Below B w w')(hB:hi<=B):Τ lo hi e w' v xs:=zeu h hb hB
theorem Τ.outside {xs:List (List UInt8)}(h:Τ lo hi e w v xs)(hb:β lo' hi' w w')(hd:hi<=lo'\/hi'<=lo):Τ lo hi e w' v xs:=zji h hb hd
theorem Τ.wide2 {xs:List (List UInt8)}(h:Τ lo hi e w v xs)(hl:lo'<=lo)(hh:hi<=hi'):Τ lo' hi' e w v xs:=zbh h hl hh
theorem zow(lo hi:Nat)(v:Value)(xs:List (List UInt8))(L0:Nat)(r:Int)(w:World)(hx:SlT lo hi w v xs)(hm:∀ x∈xs,x.length<=maxLen)(hL0:L0<=1048576)(h1:L0<xs.length+zbx xs->r=-1)(h2:xs.length+zbx xs<=L0->r=L0-((xs.length+zbx xs:Nat):Int)):
  Calls prog 8 #[v,.int .i64 L0] w λe w'=>e=.returned r/\w=w':=by
 have HX:=H_ hx;obtain⟨a,cap,rfl,hcap,hcm⟩:=hx.shape;unfold maxLen at hcm hm;have HM:=H_ hm;have H1:=H_ h1;have H2:=H_ h2;clear hx h1 h2 hm;by_cases hl:xs.length<=L0
 ·have⟨L,hL⟩:=ex_ (L0-xs.length)
  have⟨hL1,hLl⟩:((L0:Int)-xs.length)=L/\L<=1048576:=by omega
  have HLE:=H_ hL;clear hL
  go_enter func8,ntmps8
  go_wp2
  go_loop [1,5] (λlv kv=>∃ k:Nat,kv=.int .i64 k/\k<=xs.length/\zbx (xs.take k)<=L/\lv=.int .i64 ((L:Int)-zbx (xs.take k))) (λ_ kv=>xs.length-(intOf kv).toNat)
  case atStart=>exact⟨0,rfl,by omega,by simp[zbx],by simp[zbx]⟩
  case round=>
   obtain⟨k,rfl,hk,hs,rfl⟩:=hrel;by_cases hlt:k<xs.length
   ·(obtain⟨b,off,rfl,_,_,_,hcell⟩:=zf3 HX.o k hlt);have hum:=HM.o _ (k_ hlt);have hsn:=zox xs k hlt;have HLE2:=H_ (zr5 xs (k+1));have⟨x,hxx⟩:=ex_ (xs[k]);rw[<-hxx]at hcell hsn hum;have HSN:=H_ hsn;obtain⟨s,hs'⟩:∃ s,s=zbx (xs.take k):=⟨_,rfl⟩;rw[<-hs']at hs HSN ⊢;clear hsn hxx hs';by_cases hneg:L<s+x.length
    ·(have HR:Q_ (r=-1):=H_ (H1.o (by have:=HLE2.o;have:=HSN.o;have:=HLE.o;omega)));(have hn1:(L:Int)-s-x.length<0:=by omega);go_wp2;go_ret;exact⟨zca HR.o.symm,rfl⟩
    ·(have hn1:¬(L:Int)-s-x.length<0:=by omega);go_wp2;go_round
     (case rel=>exact⟨k+1,by go_num,by omega,by rw[HSN.o];omega,by rw[HSN.o];push_cast;congr 1;omega⟩);case measure=>simp[intOf];omega
   ·(obtain rfl:k=xs.length:=by omega)
    have HR:Q_ (r=(L:Int)-zbx xs):=H_ (by
     rw[F_]at hs;have:=HLE.o;rw[H2.o (by omega)];push_cast;omega)
    go_wp2;go_ret;exact⟨zca (by rw[HR.o]),rfl⟩
 ·have HR:Q_ (r=-1):=H_ (H1.o (by omega))
  have hneg:(L0:Int)-xs.length<0:=by omega
  go_enter func8,ntmps8
  go_wp2;go_ret;exact⟨zca HR.o.symm,rfl⟩
theorem zj4(lo hi:Nat)(v:Value)(xs:List (List UInt8))(w:World)(hx:SlT lo hi w v xs)(hh:hi<=w)(hm:xs.length<=1048576):
  Calls prog 11 #[v] w λe w'=>∃ v',e=.returned v'/\Below w w w'/\Τ w w' 9 w' v' xs:=by
 obtain⟨i0,hi0,hz0,hz1,hz2⟩:=bc_ zga;have HX:=H_ hx;obtain⟨a,cap,rfl,hcap,hcm⟩:=hx.shape;clear hx hcm
 go_enter func11,ntmps11
 go_wp2_with ((at_make;refine di_ _ rfl _ _ 26 rfl w.heap.size 9 i0 (.string ⟨#[]⟩) 1 underlying26 hi0 hz0 hz1 .i64 .i64 xs.length xs.length xs.length rfl rfl rfl rfl ?c1 ?c2 ?c3 ?c4))
 case c1=>rw[hz2];omega
 case c2=>simp[maxLen];omega
 case c3=>exact le_ _
 case c4=>
  intro w1 hown hg;have hb1:Below w w w1:=(B_ _ _).grown hg (le_ _) (by simp);rw[toList_madeCells_one]at hown;clear hg hi0 hz0 hz1 hz2;go_wp2;go_loopw [4] (λi wr=>∃ k,k<=xs.length/\i=.int .i64 k/\wr.ownsRow w 9 1 (.slice (some ⟨w,0,none⟩) xs xs.length) xs.length (zd4 (zag xs) (.string ⟨#[]⟩) k)/\Below w w wr) (λi _=>xs.length-(intOf i).toNat)
  case atStart=>exact⟨0,by omega,rfl,by rw[znf,zfh];exact hown,hb1⟩
  case round=>
   obtain⟨k,hk,rfl,hown,hbk⟩:=hrel;clear hb1;by_cases hlt:k<xs.length
   ·(obtain⟨b,off,rfl,_,hbh,hbs,hck⟩:=zf3 (zb9 HX.o hbk hh) k hlt);(have hne:b≠w.heap.size:=by omega);(have hw1:=hown.cellAt k (by omega);have hw2:=hown.frozenAt k;have HS:=H_ (hown.stored k (.string ⟨xs[k].toArray⟩));have HBS:=H_ (hbk.setCell (p:=p_ w k) (le_ _) (.string ⟨xs[k].toArray⟩)))
    have hw3:∃ x,wr.cell? (p_ w k)=some x:=by
     refine⟨.string ⟨#[]⟩,?_⟩;rw[hw1];exact zn2 _ _ _ (by rw[zfh];exact hlt)
    (obtain⟨x,hw3⟩:=hw3;clear hw1 hown hbk;go_wp2;go_roundw)
    case rel=>
     exact⟨k+1,by omega,by go_num,by rw[<-zrk _ _ k (by rw[zfh];exact hlt) _ (zng xs k hlt)];exact HS.o.1,HBS.o⟩
    case measure=>simp[intOf];omega
   ·(obtain rfl:k=xs.length:=by omega);go_wp2;go_ret;rw[zq7 _ _ _ (by rw[zfh];exact le_ _)]at hown;exact⟨_,rfl,hbk,hown,λg hg=>(hown.lt g hg).2⟩
theorem zi5(lo hi lo' hi':Nat)(v v':Value)(xs:List (List UInt8))(w:World)(hx:SlT lo hi w v xs)(hy:SlT lo' hi' w v' xs)(hm:xs.length<=1048576):
  Calls prog 14 #[v,v'] w λe w'=>e=.returned true/\Below w w w':=by
 have HX:=H_ hx;have HY:=H_ hy;obtain⟨a,cap,rfl,_,_⟩:=hx.shape;obtain⟨a',cap',rfl,_,_⟩:=hy.shape;clear hx hy;have hl1:((xs.length:Int) !=xs.length)=false:=by simp
 go_enter func14,ntmps14
 go_wp2;go_loopw [5] (λi wr=>∃ k m:Nat,k<=xs.length/\i=.int .i64 k/\wr=w.drewN m) (λi _=>xs.length-(intOf i).toNat)
 case atStart=>exact⟨0,0,by omega,rfl,rfl⟩
 case round=>
  obtain⟨k,m,hk,rfl,rfl⟩:=hrel;by_cases hlt:k<xs.length
  ·obtain⟨b,off,rfl,_,_,hbs,c1⟩:=zf3 HX.o k hlt
   obtain⟨b',off',rfl,_,_,hbs',c1'⟩:=zf3 HY.o k hlt;obtain⟨x,hxx⟩:∃ x:ByteArray,x=⟨xs[k].toArray⟩:=⟨_,rfl⟩;rw[<-hxx]at c1 c1';clear hxx;have e1:(x !=x)=false:=by first | rfl | (show (!(x.data==x.data))=false;simp) | (simp[bne,BEq.beq])
   go_wp2
   go_quiet (fail)
   go_wp2;go_roundw
   case rel=>exact⟨k+1,m+nq,by omega,by go_num,by first | rfl | rw[b2_]⟩
   case measure=>simp[intOf];omega
  ·go_wp2
   go_ret;exact⟨rfl,S_ (B_ _ _) _⟩
def mkD:Nat->Nat->List UInt8->List UInt8
 | 0,_,s=>s
 | f+1,n,s=>if n=0 then s else mkD f (n/10) (UInt8.ofNat (48+n%10) :: s)
theorem zs1(f:Nat)(s:List UInt8):mkD f 0 s=s:=by cases f<;>simp[mkD]
theorem catM(c c':UInt8)(l:List UInt8)(h:c=c'):ByteArray.mk #[c]++ByteArray.mk l.toArray=ByteArray.mk (c' :: l).toArray:=by
 subst h
 show ByteArray.mk [c].toArray++_=_
 rw[a0_];rfl
def mkT(k:Int):List UInt8:=if k<=0 then [109,48] else 109 :: mkD k.toNat k.toNat []
theorem zq9(k:Int)(w:World)(hk:k<=1000000000000):
  Calls prog 42 #[.int .i64 k] w λe w'=>e=.returned (.string ⟨(mkT k).toArray⟩)/\Below w w w':=by
 by_cases h0:k<=0
 ·have HT:=H_ (show mkT k=[109,48] by simp[mkT,h0])
  go_enter func42,ntmps42
  go_wp2;go_ret;exact⟨za3 HT.o.symm,B_ _ _⟩
 ·obtain⟨K,rfl⟩:∃ n:Nat,k=n:=⟨k.toNat,by omega⟩
  have HT:=H_ (show mkT (K:Int)=109 :: mkD K K [] by simp only[mkT,j_ h0,bh_]);have hK:K<=1000000000000:=by omega
  go_enter func42,ntmps42
  go_wp2;go_loopw [0,3] (λkv ov wr=>∃ (n f:Nat) (s:List UInt8),n+s.length<=K/\n<=f/\kv=.int .i64 n/\ov=.string ⟨s.toArray⟩/\Q_ (mkD f n s=mkD K K [])/\Q_ (Below w w wr)) (λkv _ _=>(intOf kv).toNat)
  case atStart=>exact⟨K,K,[],by simp,le_ _,rfl,rfl,H_ rfl,H_ (B_ _ _)⟩
  case round=>
   rename World=>wr
   obtain⟨n,f,s,hns,hnf,rfl,rfl,HD,HB⟩:=hrel;by_cases hn:0<n
   ·(obtain⟨f,rfl⟩:∃ g,f=g+1:=⟨f-1,by omega⟩);(have HN:=H_ (show mkD f (n/10) (UInt8.ofNat (48+n%10) :: s)=mkD K K [] by rw[<-HD.o,mkD,j_ (by omega)]);obtain⟨a,ha,ha2⟩:∃ a:Nat,(n:Int)/10=a/\n/10=a:=⟨n/10,by omega,rfl⟩;obtain⟨b,hb,hb2⟩:∃ b:Nat,(n:Int)%10=b/\n%10=b:=⟨n%10,by omega,rfl⟩;have bb:b<=9:=by omega);(have hcv:=zgc (P:=prog) 40 9 5 underlying40 underlying5 underlying9 wr [48+(b:Int)];simp only[y_,O_,cd_,b7_,G_]at hcv;rw[ha2,hb2]at HN;have HA:=H_ (show a+(UInt8.ofNat ((48:Int)+(b:Int)).toNat :: s).length<=K/\a<=f/\a<n by simp only[y_];omega);have HO:=H_ (show UInt8.ofNat (48+b)=UInt8.ofNat ((48:Int)+(b:Int)).toNat from (zht b).symm);have HBN:=H_ (HB.o.alloc HB.o.size (.cells #[.int .u8 (48+(b:Int))] 5));clear ha2 hb2 HD;go_wp2;go_roundw);(case rel=>exact⟨a,f,UInt8.ofNat ((48:Int)+(b:Int)).toNat :: s,HA.o.1,HA.o.2.1,by go_num,by congr 1;first | exact catM _ _ _ rfl | exact catM _ _ _ (by rw[zht,UInt8.ofNat_add];rfl),H_ (by rw[<-HO.o];exact HN.o),HBN⟩);case measure=>have:=HA.o.2.2;simp[intOf];omega
   ·(obtain rfl:n=0:=by omega);have HF:=H_ (show mkT (K:Int)=109 :: s by rw[HT.o,<-HD.o,zs1]);go_wp2;go_ret;exact⟨za3 (by rw[HF.o];simp),HB.o⟩
def zcc(k:Int)(n:Nat):List (List UInt8):=(List.range n).map (λi=>mkT (k+(i:Nat)))
theorem zka(k:Int)(n:Nat):(zcc k n).length=n:=by simp[zcc]
theorem zw5(k:Int)(n i:Nat)(h:i<n):(zag (zcc k n))[i]?=some (.string ⟨(mkT (k+i)).toArray⟩):=by simp[zag,zcc,h]
theorem zz5(k:Int)(n i:Nat)(h:i<n):(zcc k n)[i]'(by rw[zka];exact h)=mkT (k+i):=by simp[zcc]
theorem znc(lo hi:Nat)(v:Value)(xs:List (List UInt8))(k:Int)(w:World)(hx:Τ lo hi 9 w v xs)(hh:hi<=w)(hm:xs.length<=1048576)(hk0:0<=k)(hk1:k<=10000000000):
  Calls prog 16 #[v,.int .i64 k] w λe w'=>
   e=.returned (.int .i64 (k+xs.length))/\β lo hi w w'/\Τ lo hi 9 w' v (zcc k xs.length):=by
 have hx':Own 1 lo hi 9 w v xs.length (zag xs):=hx;obtain⟨a,cap,rfl,hcap,hcm,hlen,hopen⟩:=ι hx;have hlt':=hx'.2;have hown0:=hx'.1;have HLT:=H_ hlt';have HOP:=H_ hopen;have HST:=H_ (show Q_ (Own 1 lo hi 9 w (.slice a xs cap) xs.length (over (zag (zcc k xs.length)) (zag xs) 0)/\β lo hi w w) from H_ ⟨by rw[zhu];exact hx',β.refl _ _ _⟩);clear hx hx' hlen hlt' hopen hown0
 go_enter func16,ntmps16
 go_wp2;go_loopw [1,5] (λc i wr=>∃ j:Nat,j<=xs.length/\i=.int .i64 j/\c=.int .i64 (k+j)/\w<=wr.heap.size/\Q_ (Own 1 lo hi 9 wr (.slice a xs cap) xs.length (over (zag (zcc k xs.length)) (zag xs) j)/\β lo hi w wr)) (λ_ i _=>xs.length-(intOf i).toNat)
 case atStart=>exact⟨0,by omega,rfl,by simp,le_ _,HST.o⟩
 case round=>
  rename World=>wr
  obtain⟨j,hj,rfl,rfl,hsr,HQ⟩:=hrel;clear HST;by_cases hlt:j<xs.length
  ·obtain⟨g,rfl,hg1,hg2⟩:=HOP.o (by omega)
   have hmk:k+(j:Int)<=1000000000000:=by omega
   go_wp2_with fail
   refine(zq9 (k+j) wr hmk).mono ?_;rintro e w2 ⟨rfl,hb2⟩;have hs2:=hb2.size;have hown:=(HQ.o.1.below hb2 (by omega)).1;have hout:=HQ.o.2.below hb2 hsr;have hw1:=hown.cellAt j (by omega);have hw2:=hown.frozenAt j;rw[zh1 _ _ _ (by simp[zag,zcc]) (by simp[zag];omega),zng _ _ hlt]at hw1;have hs0:=(hown.stored j (.string ⟨(mkT (k+j)).toArray⟩)).1;rw[zf4 _ _ j (by simp[zag,zcc]) (by simp[zag];omega) _ (zw5 k _ j hlt)]at hs0;have ho:=hout.setCell (p:=p_ g j) hg1 hg2 (.string ⟨(mkT (k+j)).toArray⟩);have hz:w.heap.size<=(w2.setCell (p_ g j) (.string ⟨(mkT (k+j)).toArray⟩)).heap.size:=ho.size;have HN:=H_ (show Own 1 lo hi 9 (w2.setCell (p_ g j) (.string ⟨(mkT (k+j)).toArray⟩)) (.slice (some ⟨g,0,none⟩) xs cap) xs.length (over (zag (zcc k xs.length)) (zag xs) (j+1))/\β lo hi w (w2.setCell (p_ g j) (.string ⟨(mkT (k+j)).toArray⟩)) from ⟨⟨hs0,HLT.o⟩,ho⟩);clear hown hout hs0 ho HQ hb2;go_wp2;go_roundw
   case rel=>exact⟨j+1,by omega,by go_num,by go_num,hz,HN⟩
   case measure=>simp[intOf];omega
  ·obtain rfl:j=xs.length:=by omega
   have hown:=HQ.o.1;rw[zia _ _ _ (by simp[zag]) (by simp[zag,zcc])]at hown;have HF:=H_ (show Τ lo hi 9 wr (.slice a xs cap) (zcc k xs.length) by show Own 1 _ _ _ _ _ (zcc k xs.length).length _;rw[zka];exact hown);have HO:=H_ HQ.o.2;clear hown HQ;go_wp2;go_ret;exact⟨rfl,HO.o,HF.o⟩
theorem zrn(lo hi:Nat)(v:Value)(n:Nat)(k:Int)(w:World)(hx:SlT lo hi w v (zcc k n))(hh:hi<=w)(hm:n<=1048576)(hk0:0<=k)(hk1:k<=10000000000):
  Calls prog 18 #[v,.int .i64 k] w λe w'=>e=.returned (.int .i64 (k+n))/\Below w w w':=by
 have HX:=H_ hx;obtain⟨a,cap,rfl,hcap,hcm⟩:=hx.shape;rw[zka]at *;clear hx
 go_enter func18,ntmps18
 go_wp2;go_loopw [1,5] (λc i wr=>∃ j:Nat,j<=n/\i=.int .i64 j/\c=.int .i64 (k+j)/\Q_ (Below w w wr)) (λ_ i _=>n-(intOf i).toNat)
 case atStart=>exact⟨0,by omega,rfl,by simp,H_ (B_ _ _)⟩
 case round=>
  rename World=>wr
  obtain⟨j,hj,rfl,rfl,HB⟩:=hrel;by_cases hlt:j<n
  ·have hl2:j<(zcc k n).length:=by rw[zka];exact hlt
   obtain⟨b,off,rfl,_,_,hbs,hcell⟩:=zf3 (zb9 HX.o HB.o hh) j hl2;rw[zz5 k n j hlt]at hcell;have hmk:k+(j:Int)<=1000000000000:=by omega
   have hsz:=HB.o.size;obtain⟨x,hxx⟩:∃ x:ByteArray,x=⟨(mkT (k+j)).toArray⟩:=⟨_,rfl⟩;have HC:=H_ λwx=>zq9 (k+j) wx hmk
   rw[<-hxx]at hcell HC;have e1:(x !=x)=false:=by first | rfl | (show (!(x.data==x.data))=false;simp) | (simp[bne,BEq.beq])
   have hbd:Below wr wr wr.drew:=n_ (B_ _ _);have HCELL:=H_ λwx (hb:Below wr wr wx)=>((hb.cell (p:=p_ b (off+j)) hbs).trans hcell)
   have hS0:=HCELL.o _ hbd;clear hl2 hxx;go_wp2_with fail
   go_region_held3 (λw'=>w'.cell? (p_ b (off+j))=some (.string x)) (first | with_reducible assumption | go_keep) (first
    | (go_at_call 42;refine(HC.o wr.drew).mono ?_;rintro e1_ w1 ⟨rfl,hb_⟩;(have hb1:=hbd.trans (hb_.mono (le_ _)));(have hS1:=HCELL.o _ hb1);(have HB1:=H_ hb1);clear hb_ hb1))
   all_goals (
    go_wp2;go_roundw
    (case rel=>exact⟨j+1,by omega,by go_num,by go_num,HB.tr HB1.o hsz⟩);case measure=>simp[intOf];omega)
  ·obtain rfl:j=n:=by omega
   go_wp2;go_ret;exact⟨rfl,HB.o⟩
theorem InR.lt {n x:Int}(h:InR n x)(hn:0<n):0<=x/\x<n:=by
 obtain⟨h1,h2⟩:=h;omega
theorem β.alloc {o:Obj}(h:β lo hi (w.alloc o) w'):β lo hi w w':=
 (β.of_below ((B_ w w).alloc (le_ _) o) (le_ _)).trans h
theorem Rd.alloc {g c:Nat}(h:Rd g w c)(o:Obj):Rd g (w.alloc o) c:=h.below ((B_ _ _).alloc (le_ _) _) h.lt
theorem zed.mk {P:Value->Bool->World->Prop} {e:Ending}(v:Value)(b:Bool)(h:e=.returned (.tuple #[v,.bool b]))(hp:P v b w'):zed P e w':=⟨v,b,h,hp⟩
section
variable {w:World} {ops:Array Oper} {rest:List Oper} {o:Oper} {a:Act} {Q:Exit->Act->World->Prop}
end
section
variable {P:Program} {w:World} {ops:Array Oper} {rest:List Oper} {o:Oper} {a:Act} {Q:Exit->Act->World->Prop}
theorem zlw(w0:World)(hgd:o.guard=none)(s x:Operand)(t:TypeId)
  (ho:o.op=.call { callee:=.builtin .append,args:=#[s,x],argTypes:=#[t,t] })
  (e:TypeId) (z:Value) (sz bytes:Nat) (ht:P.underlying t=some (.slice e)) (hinfo:(P.info? e).map (λi=>(i.zero,i.size,i.bytes))=some (some z,sz,bytes))
  (hzs:z.cells.size=sz) (hsz:0<sz) (hby:bytes<=64)
  {lo hi n:Nat} {v:Value} {xs:List Value} (hs:a.eval s=v) (hown:Own sz lo hi e w0 v n xs)
  (m:Nat) (ys:List Value) (hx:a.eval x=.slice (some ⟨w0,0,none⟩) m m) (hlen:ys.length=m*sz) (h1:∀ u∈ys,u.oneCell'=true) (hw:w=w0.alloc (.cells ys.toArray e))
  (hn:n+m<=1073741824) (hlo:lo<=w0)
  (h:∀ v' w' lo' hi',Own sz lo' hi' e w' v' (n+m) (xs++ys)->(lo'=lo/\hi'=hi\/w0.heap.size<=lo'/\lo' < hi'/\hi'<=w'.heap.size)->β lo hi w0 w'->wpList P ops Q rest (a.put o.dst v') w'):wpList P ops Q (o :: rest) a w:=by
 subst hw;obtain⟨i,hi0,hz,hsize,hb⟩:=bc_ hinfo;have hl:=(π sz e w0 ys m (by omega) hlen).sl;obtain⟨ao,c,he,hmc,hcm,hlen',hnone,hc⟩:=hl;injection he with he1 he2 he3;subst he1 he3;have hown':=hown.alloc (.cells ys.toArray e);have hmx:(n+m)*bytes<=140737488355328:=x_ (a6_ hn hby) (by decide);refine wpList_append_own_at _ hgd s x t ho lo e i z sz bytes ht hi0 hz hsize hb hzs hsz v n xs hs hown'.1 (p_ w0 0) m m ys hx hlen ?_ h1 (by unfold maxLen;omega) hmx (by simp;omega) ?_
 ·intro j u hu
  have hj:=(ar_.1 hu).1;obtain⟨b,off,e1,_,_,_,e2⟩:=hc j hj;injection e1 with e1;rw[e1,aj_,e2,hu]
 ·intro v' w' h2 h3 _ h5
  have hout:β lo hi w0 w':=(β.of_below ((B_ _ _).alloc (le_ _) _) (le_ _)).trans (zbk h3 hown'.lt);rcases h2.2 with⟨hv,hx0⟩|⟨g,cap,cur,hv,hbg,hg,r1,r2,r3,r4⟩
  ·exact h v' w' lo hi ⟨h2,λk hk=>by rw[hv] at hk;simp[Value.ownBlock] at hk⟩ (.inl ⟨rfl,rfl⟩) hout
  ·have hgs:=(v_.1 hg).1
   have hvb:v'.ownBlock=some g:=by rw[hv];rfl
   rcases h5 with h5|h5
   ·exact h v' w' lo hi ⟨h2,λk hk=>hown'.2 k (by rw[<-h5];exact hk)⟩ (.inl ⟨rfl,rfl⟩) hout
   ·rw[hvb]at h5
    injection h5 with h5;have h6:w0.heap.size<=g:=by rw[h5];simp
    refine h v' w' g (g+1) ⟨⟨h2.1,.inr ⟨g,cap,cur,hv,le_ _,hg,r1,r2,r3,r4⟩⟩,λk hk=>?_⟩ (.inr ⟨h6,A_ g,hgs⟩) hout;rw[hvb]at hk;injection hk with hk;omega
end
theorem Ι.lower {l:List Mv}(h:Ι lo hi e w v l)(h1:lo'<=lo)(h2:hi<=hi'):Ι lo' hi' e w v l:=zbh h h1 h2
theorem zzl(a:Ac)(w:World):
    Calls prog 86 #[.agg #[.int .i64 a.kind,.int .i64 a.step.which,.bool a.step.back,.int .i64 a.step.at_,.int .i64 a.count]] w λe w'=>e=.returned (.string ⟨(zak a).toArray⟩)/\Below w w w':=by
  obtain⟨k,m,c⟩:=a;have⟨w0,hw0⟩:=xa_ w #[.int .i64 k,.int .i64 m.which,.bool m.back,.int .i64 m.at_,.int .i64 c] 69;have HB:Q_ (Below w w w0):=by rw[hw0];exact H_ ((B_ _ _).alloc (le_ _) _)
  have K:Q_ (Blk w (.cells #[.int .i64 k,.int .i64 m.which,.bool m.back,.int .i64 m.at_,.int .i64 c] 69) w0):=by rw[hw0];exact H_ (θ w _)
  have⟨c0,c1,c2,c3,c4⟩:=K.o.c5
  go_enter func86,ntmps86
  go_wp2_with fail
  simp only[<-hw0];clear hw0;go_wp2_with fail
  refine(zod ⟨k,m,c⟩ _).mono ?_;rintro e w1 ⟨rfl,hb⟩;clear c0 c1 c2 c3 c4;replace HB:=HB.ts hb;replace K:=K.kb hb;clear hb;have⟨c0,c1,c2,c3,c4⟩:=K.o.c5;cases hN:Χ ⟨k,m,c⟩
  · have HT:=H_ (show zak ⟨k,m,c⟩=[] by simp[zak,hN])
    clear hN;go_wp2;go_ret;exact⟨za3 (a:=[]) (by rw[HT.o]),HB.o⟩
  · cases h0:k==0
    · cases h1:k==1
      · have h2:(k==2)=true:=by
          cases h2:k==2
          · simp[Χ,h0,h1,h2] at hN
          · rfl
        have HT:=H_ (show zak ⟨k,m,c⟩=zdt by simp only[zak,hN,h0,h1];rfl);clear hN;go_wp2;go_ret;exact⟨za3 HT.o.symm,HB.o⟩
      · have h2 : (k == 2) = false := by have h : k = 1 := by simpa using h1
                                         subst h;rfl
        by_cases g1:0<=c
        · by_cases g2:c<=99
          · have HT:=H_ (show zak ⟨k,m,c⟩=zba++Γ c.toNat by simp only[zak,hN,h0,h1];simp[g1,g2])
            clear hN;obtain⟨c,rfl⟩:∃ n:Nat,c=n:=⟨c.toNat,by omega⟩;have hc:c<100:=by omega
            (have l1:=ze8 c;clear g1;go_wp2_with (first | (go_at_call 88;refine(zp6 _ _ hc).mono ?_;rintro e w' ⟨rfl,rfl⟩) | fail));go_ret;exact⟨zpf c _ HT.o,HB.o⟩
          · have HT:=H_ (show zak ⟨k,m,c⟩=[] by simp only[zak,hN,h0,h1];simp[g2])
            clear hN;go_wp2;go_ret;exact⟨za3 (a:=[]) (by rw[HT.o]),HB.o⟩
        · have HT:=H_ (show zak ⟨k,m,c⟩=[] by simp only[zak,hN,h0,h1];simp[g1])
          clear hN;go_wp2;go_ret;exact⟨za3 (a:=[]) (by rw[HT.o]),HB.o⟩
    · have HT:=H_ (show zak ⟨k,m,c⟩=Α m by simp only[zak,hN,h0];rfl)
      clear hN;go_wp2_with fail
      refine(zlf m _).mono ?_;rintro e w2 ⟨rfl,hb⟩;replace HB:=HB.ts hb;clear hb;go_wp2;go_ret;exact⟨za3 HT.o.symm,HB.o⟩
theorem zqj(n:Nat)(w:World)(h:n<100):
  Calls prog 54 #[.int .i64 n] w λe w'=>e=.returned (.string ⟨(Γ n).toArray⟩)/\Below w w w':=by
 go_enter func54,ntmps54
 go_wp2_with fail
 refine(zmh n _ h).mono ?_;rintro e w1 ⟨rfl,hb⟩;go_wp2;go_ret;exact⟨rfl,hb⟩
theorem zr9(a:Ac)(w:World):
    Calls prog 82 #[.agg #[.int .i64 a.kind,.int .i64 a.step.which,.bool a.step.back,.int .i64 a.step.at_,.int .i64 a.count]] w λe w'=>e=.returned (.string ⟨(zak a).toArray⟩)/\Below w w w':=by
  obtain⟨k,m,c⟩:=a;have⟨w0,hw0⟩:=xa_ w #[.int .i64 k,.int .i64 m.which,.bool m.back,.int .i64 m.at_,.int .i64 c] 69;have HB:Q_ (Below w w w0):=by rw[hw0];exact H_ ((B_ _ _).alloc (le_ _) _)
  have K:Q_ (Blk w (.cells #[.int .i64 k,.int .i64 m.which,.bool m.back,.int .i64 m.at_,.int .i64 c] 69) w0):=by rw[hw0];exact H_ (θ w _)
  have⟨c0,c1,c2,c3,c4⟩:=K.o.c5
  go_enter func82,ntmps82
  go_wp2_with fail
  simp only[<-hw0];clear hw0;go_wp2_with fail
  refine(zq4 ⟨k,m,c⟩ _).mono ?_;rintro e w1 ⟨rfl,hb⟩;clear c0 c1 c2 c3 c4;replace HB:=HB.ts hb;replace K:=K.kb hb;clear hb;have⟨c0,c1,c2,c3,c4⟩:=K.o.c5;cases hN:Χ ⟨k,m,c⟩
  · have HT:=H_ (show zak ⟨k,m,c⟩=[] by simp[zak,hN])
    clear hN;go_wp2;go_ret;exact⟨za3 (a:=[]) (by rw[HT.o]),HB.o⟩
  · cases h0:k==0
    · cases h1:k==1
      · have h2:(k==2)=true:=by
          cases h2:k==2
          · simp[Χ,h0,h1,h2] at hN
          · rfl
        have HT:=H_ (show zak ⟨k,m,c⟩=zdt by simp only[zak,hN,h0,h1];rfl);clear hN;go_wp2;go_ret;exact⟨za3 HT.o.symm,HB.o⟩
      · have h2 : (k == 2) = false := by have h : k = 1 := by simpa using h1
                                         subst h;rfl
        cases g:inB c 0 99
        · have HT:=H_ (show zak ⟨k,m,c⟩=[] by simp[inB] at g;simp only[zak,hN,h0,h1];simp;intro g1 g2;omega)
          clear hN;go_wp2_with (go_at_call 101;refine(zau _ _ _ _).mono ?_;rintro e w' ⟨rfl,rfl⟩)
          go_ret;exact⟨za3 (a:=[]) (by rw[HT.o]),HB.o⟩
        · have g1:0<=c/\c<=99:=by simpa [inB] using g
          (have HT:=H_ (show zak ⟨k,m,c⟩=zba++Γ c.toNat by simp only[zak,hN,h0,h1];simp[g1]);clear hN;obtain⟨c,rfl⟩:∃ n:Nat,c=n:=⟨c.toNat,by omega⟩;have hc:c<100:=by omega);(have l1:=ze8 c;clear g1;go_wp2_with (go_at_call 101;refine(zau _ _ _ _).mono ?_;rintro e w' ⟨rfl,rfl⟩));refine(zqj c _ hc).mono ?_;rintro e w2 ⟨rfl,hb⟩;replace HB:=HB.ts hb;clear hb;go_wp2;go_ret;exact⟨zpf c _ HT.o,HB.o⟩
    · have HT:=H_ (show zak ⟨k,m,c⟩=Α m by simp only[zak,hN,h0];rfl)
      clear hN;go_wp2_with fail
      refine(zi8 m _).mono ?_;rintro e w2 ⟨rfl,hb⟩;replace HB:=HB.ts hb;clear hb;go_wp2;go_ret;exact⟨za3 HT.o.symm,HB.o⟩
theorem zm9:(Tryz.prog.info? 156).map (·.size)=some 2:=by kernel_rfl
theorem zvp:liesAt prog Tryz.prog.depth 156 (2/Tryz.prog.cellsOf 156) 0 156 1=true:=by kernel_rfl
theorem zsl:(Tryz.prog.info? 5).map (λi=>(i.zero,i.size,i.bytes))=some (some (.int .u8 0),1,1):=by kernel_rfl
theorem z05(b:Nat)(w:World)(h0:w.cell? (p_ b 0)=some (.pointer (some ⟨b,0,none⟩))):
  Calls prog 185 #[.pointer (some ⟨b,0,none⟩)] w λe w'=>e=.returned (.tuple #[])/\w'=w:=by
 obtain⟨j,hj,_⟩:=L_.1 zm9
 go_enter func185,ntmps185
 go_wp2;rw[Lib.run_neq_ptr_same w _ underlying154 hj];go_wp2
 go_end0
 exact⟨rfl,rfl⟩
theorem zvq(b:Nat)(w:World)(h0:w.cell? (p_ b 0)=some (.pointer none))(hsh:w.shape? b=some (156,2))(hfz:w.frozen? (p_ b 0)=false):
  Calls prog 185 #[.pointer (some ⟨b,0,none⟩)] w λe w'=>e=.returned (.tuple #[])/\w'=w.setCell (p_ b 0) (.pointer (some ⟨b,0,none⟩)):=by
 obtain⟨j,hj,hjs⟩:=L_.1 zm9
 go_enter func185,ntmps185
 go_wp2;rw[Lib.run_to_unsafe w (p_ b 0) underlying154 underlying218 hj (by rw[hjs];decide) hsh (Nat.zero_lt_succ 1)];simp only[Result.andThen];rw[dq_];go_wp2;rw[run_callFunc_extern func211 (by kernel_rfl) (by kernel_rfl) (by kernel_rfl) (e:=Extern.AbiNoEscape.same) (by kernel_rfl)];rw[Lib.run_noEscape];simp only[Result.andThen];rw[dq_];go_wp2;rw[Lib.run_from_unsafe w (p_ b 0) underlying218 underlying154 hj hsh zvp];simp only[Result.andThen];rw[dq_];go_wp2
 go_end0
 exact⟨rfl,rfl⟩
abbrev Bld(B b:Nat)(bs:List UInt8)(w:World):Prop:=Lib.IsBuilderF 156 5 B b (Lib.byteCells bs) w
theorem zyc(B b:Nat)(bs:List Value)(w:World)(h:Lib.IsBuilderF 156 5 B b bs w):
  Calls prog 185 #[.pointer (some ⟨b,0,none⟩)] w λe w'=>e=.returned (.tuple #[])/\(Lib.BuilderAtF 156 5 B b (.pointer (some ⟨b,0,none⟩)) bs w'/\Below B w w'):=by
 rcases h with h|h
 ·refine(zvq b w h.cell0 h.shape h.frozen0).mono ?_
  rintro e w' ⟨rfl,rfl⟩;exact⟨rfl,h.used _,(B_ B w).setCell (p:=p_ b 0) h.1 _⟩
 ·refine(z05 b w h.cell0).mono ?_
  rintro e w' ⟨rfl,rfl⟩;exact⟨rfl,h,B_ B _⟩
theorem zx0(w:World):Bld w w [] (w.alloc (.cells #[.pointer none,()] 156)):=
 .inl ⟨le_ _,(),bu_ w _,⟨rfl,.inl ⟨rfl,rfl⟩⟩,by simp[Value.ownBlock]⟩
theorem zs2(B b:Nat)(l:List UInt8)(w:World)(h:Bld B b l w)(hBw:B<=w.heap.size):
  Calls prog 144 #[.pointer (some ⟨b,0,none⟩)] w λe w'=>e=.returned (.string ⟨l.toArray⟩)/\Below B w w':=by
 refine(Tryz.Builder_String_any_k B b l w h hBw).mono ?_;rintro e w' ⟨rfl,_,h2,_⟩;exact⟨rfl,h2⟩
theorem BldAt.below {T e:TypeId} {b:Nat} {p:Value} {bs:List Value}(h:Lib.BuilderAtF T e B b p bs w)(hb:Below w w w'):Lib.BuilderAtF T e B b p bs w':=by
 obtain⟨hB,v,hbk,⟨hlen,hown⟩,hne⟩:=h;have hl:=(v_.1 hbk).1;refine⟨hB,v,(hb.block b hl).trans hbk,⟨hlen,?_⟩,hne⟩;rcases hown with h|⟨g,cap,cur,fz,h1,h2,h3,h4⟩
 ·exact .inl h
 ·exact .inr ⟨g,cap,cur,fz,h1,h2,(hb.block g (v_.1 h3).1).trans h3,h4⟩
theorem Bld.below {b:Nat} {bs:List UInt8}(h:Bld B b bs w)(hb:Below w w w'):Bld B b bs w':=
 h.imp (λh=>BldAt.below h hb) (λh=>BldAt.below h hb)
def zb1(l:List UInt8)(R A B:Nat):Prop:=∀ m:Mv,za2 m=true->(m.which<R\/(m.which=R/\(m.at_<A\/(m.at_=A/\(if m.back then 1 else 0)<B))))->Α m≠l
theorem zb1.zero(l:List UInt8):zb1 l 0 0 0:=by
 intro m h hlt;simp[za2]at h;omega
theorem zb1.step(h:zb1 l R A B)(hne:Α ⟨R,(B:Int)==1,A⟩≠l)(hB:B<2):zb1 l R A (B+1):=by
 intro m hm hlt;by_cases h1:m.which<R\/(m.which=R/\(m.at_<A\/(m.at_=A/\(if m.back then 1 else 0)<B)))
 ·exact h m hm h1
 ·have e:m=⟨R,(B:Int)==1,A⟩:=by
   obtain⟨p,b,q⟩:=m;simp only at h1 hlt;have⟨e1,e2,e3⟩:p=R/\q=A/\(if b=true then 1 else 0)=B:=by omega
   subst e1 e2
   congr 1
   subst e3;cases b<;>rfl
  rw[e];exact hne
theorem zb1.next(h:zb1 l R A 2):zb1 l R (A+1) 0:=by
 intro m hm hlt;refine h m hm ?_;have:(if m.back=true then 1 else 0)<2:=by split<;>omega
 omega
theorem zb1.next2(h:zb1 l R 40 0):zb1 l (R+1) 0 0:=by
 intro m hm hlt;refine h m hm ?_;simp[za2]at hm;omega
theorem zb1.all(h:zb1 l 21 0 0):za0 l=none:=
 ze6 λm hm=>h m hm (by simp[za2] at hm;omega)
theorem zxo(h:6<l.length):za0 l=none:=
 ze6 λm hm e=>by have:=zjn m;rw[e] at this;omega
theorem zln(l:List UInt8)(s:ByteArray)(hs:s=⟨l.toArray⟩)(w:World)(hl:l.length<=2097152):
  Calls prog 98 #[.string s] w λe w'=>e=.returned (zbi (za0 l))/\Below w w w':=by
 subst hs;have hb0:Q_ (∀ o,Below w w (w.alloc o)):=H_ λo=>(B_ _ _).alloc (le_ _) _
 by_cases h6:6<l.length
 ·go_enter func98,ntmps98
  go_wp2;rw[zxo h6];refine a_ (v:=zbi none) (by simp[results,results98,go_sem,zbi,Ψ]) rfl ⟨rfl,hb0.o _⟩
 ·have K0:Q_ (∀ o,Blk w o (w.alloc o)):=H_ λo=>θ w o
  have h6':l.length<=6:=by omega
  clear h6
  go_enter func98,ntmps98
  go_wp2;go_loopw [4] (λi wr=>∃ R:Nat,R<=21/\i=.int .i64 R/\Q_ (zb1 l R 0 0)/\Q_ (Blk w (.cells #[(0:Int),.bool false,(0:Int)] 67) wr)/\Q_ (Below w w wr)) (λi _=>21-(intOf i).toNat)
  case atStart=>exact⟨0,by omega,rfl,H_ (zb1.zero l),H_ (K0.o _),H_ (hb0.o _)⟩
  case round=>
   obtain⟨R,hR,rfl,HN,K,HB⟩:=hrel;by_cases hltR:R<21
   ·go_wp2
    simp only[show decide ((R:Int)<21)=true from bl_ (by omega)];go_loopw [5] (λi wr=>∃ A:Nat,A<=40/\i=.int .i64 A/\Q_ (zb1 l R A 0)/\Q_ (Blk w (.cells #[(0:Int),.bool false,(0:Int)] 67) wr)/\Q_ (Below w w wr)) (λi _=>40-(intOf i).toNat)
    case atStart=>exact⟨0,by omega,rfl,HN,K,HB⟩
    case round=>
     clear HN K HB;obtain⟨A,hA,rfl,HN,K,HB⟩:=hrel;by_cases hltA:A<40
     ·go_wp2
      simp only[show decide ((A:Int)<40)=true from bl_ (by omega)];go_loopw [6] (λi wr=>∃ B:Nat,B<=2/\i=.int .i64 B/\Q_ (zb1 l R A B)/\Q_ (Blk w (.cells #[(0:Int),.bool false,(0:Int)] 67) wr)/\Q_ (Below w w wr)) (λi _=>2-(intOf i).toNat)
      case atStart=>exact⟨0,by omega,rfl,HN,K,HB⟩
      case round=>
       clear HN K HB;obtain⟨B,hB,rfl,HN,K,HB⟩:=hrel;by_cases hltB:B<2
       ·go_wp2_with fail
        (have⟨bk,hbk⟩:=ex_ ((B:Int)==1);rw[<-hbk];have⟨w4,hw4⟩:=xa_ wr #[.int .i64 R,.bool bk,.int .i64 A] 67;rw[<-hw4];have hb:Below wr wr w4:=by rw[hw4];exact(B_ _ _).alloc (le_ _) _);(have K4:Q_ (Blk wr (.cells #[.int .i64 R,.bool bk,.int .i64 A] 67) w4):=by rw[hw4];exact H_ (θ _ _));replace K:=K.kb hb;have hsz3:=HB.o.size;replace HB:=HB.ts hb;have HBK:=H_ hbk;clear hb hw4 hbk;refine(zi8 ⟨R,bk,A⟩ _).mono ?_;rintro e w5 ⟨rfl,hb⟩;replace K:=K.kb hb;replace K4:=K4.kb hb;replace HB:=HB.ts hb;clear hb;have⟨d0,d1,d2⟩:=K4.o.c3;cases hq:(Α ⟨R,bk,A⟩==l)
        ·go_wp2
         go_roundw
         (case rel=>exact⟨B+1,by omega,by go_num,H_ (HN.o.step (by rw[<-HBK.o];simpa using hq) hltB),K,HB⟩);case measure=>simp[intOf];omega
        ·(have HR:=H_ ((zjf l ⟨R,bk,A⟩).2 ⟨by simp[za2];omega,by simpa using hq⟩));have⟨wz,hwz⟩:=x3_ w5 w R (.bool bk) A;have KZ:=K.o.set3 R (.bool bk) A;have HZ:=H_ (zge HB.o (le_ _) R (.bool bk) A);rw[<-hwz]at KZ HZ;obtain⟨q0,q1,q2⟩:=KZ.c3;clear KZ;have⟨c0,c1,c2⟩:=K.o.c3;have⟨f0,f1,f2⟩:=K.o.f3;go_wp2;simp only[<-hwz];clear hwz;rw[HR.o];refine a_ (v:=zbi (some ⟨R,bk,A⟩)) (by simp[results,results98,go_sem,q0,q1,q2,zbi,Ψ]) rfl ⟨rfl,HZ.o⟩
       ·(obtain rfl:B=2:=by omega);go_wp2;go_roundw
        (case rel=>exact⟨A+1,by omega,by go_num,H_ HN.o.next,K,HB⟩);case measure=>simp[intOf];omega
     ·(obtain rfl:A=40:=by omega);go_wp2;go_roundw
      (case rel=>exact⟨R+1,by omega,by go_num,H_ HN.o.next2,K,HB⟩);case measure=>simp[intOf];omega
   ·(obtain rfl:R=21:=by omega);have⟨wz,hwz⟩:=x3_ wr w (0:Int) (.bool false) (0:Int);have KZ:=K.o.set3 (0:Int) (.bool false) (0:Int);have HZ:=H_ (zge HB.o (le_ _) (0:Int) (.bool false) (0:Int));rw[<-hwz]at KZ HZ;obtain⟨q0,q1,q2⟩:=KZ.c3;clear KZ;have⟨c0,c1,c2⟩:=K.o.c3;have⟨f0,f1,f2⟩:=K.o.f3;go_wp2;simp only[<-hwz];clear hwz;rw[zb1.all HN.o];refine a_ (v:=zbi none) (by simp[results,results98,go_sem,q0,q1,q2,zbi,Ψ]) rfl ⟨rfl,HZ.o⟩
theorem zuz(l p:List UInt8)(s sep:ByteArray)(hs:s=⟨l.toArray⟩)(hp:sep=⟨p.toArray⟩)(w:World):
  Calls prog 84 #[.string s,.string sep] w λe w'=>e=.returned (.tuple #[.string ⟨(Lib.trimPrefix l p).toArray⟩,.bool (Lib.hasPrefix l p)])/\w=w':=by
 subst hs hp;exact(Tryz.strings_CutPrefix ⟨l.toArray⟩ ⟨p.toArray⟩ w).mono λe w' h=>⟨h.1,h.2.symm⟩
theorem zpk(l:List UInt8)(s:ByteArray)(hs:s=⟨l.toArray⟩)(w:World)(hE:Env w)(hl:l.length<=2097152):
  Calls prog 48 #[.string s] w λe w'=>e=.returned (zb4 (za7 l))/\Below w w w':=by
 subst hs;have⟨w0,hw0⟩:=xa_ w #[(0:Int),(0:Int),.bool false,(0:Int),(0:Int)] 69;have HB:Q_ (Below w w w0):=by rw[hw0];exact H_ ((B_ _ _).alloc (le_ _) _)
 have K:Q_ (Blk w (.cells #[(0:Int),(0:Int),.bool false,(0:Int),(0:Int)] 69) w0):=by rw[hw0];exact H_ (θ w _)
 have HE:=H_ (hE.below HB.o);clear hE
 go_enter func48,ntmps48
 go_wp2_with fail
 simp only[<-hw0];clear hw0;refine(zum l _ rfl _ HE.o hl).mono ?_;rintro e w1 ⟨rfl,hb⟩;replace HE:=H_ (HE.o.below hb);replace K:=K.kb hb;replace HB:=HB.ts hb;clear hb;cases hr:za0 l with
 | some m=>
  rw[ztf];have HR:=H_ (zqk hr);clear hr HE;have⟨w2,hw2⟩:=xa_ w1 #[.int .i64 m.which,.bool m.back,.int .i64 m.at_] 67;have hb:Below w1 w1 w2:=by rw[hw2];exact(B_ _ _).alloc (le_ _) _
  replace K:Q_ (Blk w (.cells #[(0:Int),(0:Int),.bool false,(0:Int),(0:Int)] 69) (w1.alloc (.cells #[.int .i64 m.which,.bool m.back,.int .i64 m.at_] 67))):=by rw[<-hw2];exact K.kb hb
  replace HB:Q_ (Below w w (w1.alloc (.cells #[.int .i64 m.which,.bool m.back,.int .i64 m.at_] 67))):=by rw[<-hw2];exact HB.ts hb
  clear hb hw2;have⟨wz,hwz⟩:=x5_ (w1.alloc (.cells #[.int .i64 m.which,.bool m.back,.int .i64 m.at_] 67)) w (0:Int) (.int .i64 m.which) (.bool m.back) (.int .i64 m.at_) (0:Int);have KZ:=K.o.set5 (0:Int) (.int .i64 m.which) (.bool m.back) (.int .i64 m.at_) (0:Int);have HZ:=H_ (zee HB.o (le_ _) (0:Int) (.int .i64 m.which) (.bool m.back) (.int .i64 m.at_) (0:Int));rw[<-hwz]at KZ HZ;obtain⟨q0,q1,q2,q3,q4⟩:=KZ.c5;clear KZ;have c0:=K.o.cell 0;have f0:=K.o.free 0;have c1:=K.o.cell 1;have f1:=K.o.free 1;have c2:=K.o.cell 2;have f2:=K.o.free 2;have c3:=K.o.cell 3;have f3:=K.o.free 3;have c4:=K.o.cell 4;have f4:=K.o.free 4;go_wp2;simp only[<-hwz];clear hwz;rw[HR.o];refine a_ (v:=zb4 (some ⟨0,m,0⟩)) (by simp[results,results48,go_sem,q0,q1,q2,q3,q4,zb4]) rfl ⟨rfl,HZ.o⟩
 | none=>
  rw[zxt];have HR1:=H_ hr;clear hr;cases hsm:l==zdt with
  | true=>
   have HR:=H_ (zoa (l:=l) (by simpa using hsm));have hsm':(l==[115,105,109,112,108,101])=true:=hsm;clear hsm HE;have hb:Below w1 w1 (w1.alloc (.cells #[(0:Int),.bool false,(0:Int)] 67)):=(B_ _ _).alloc (le_ _) _;replace K:=K.kb hb;replace HB:=HB.ts hb;clear hb;have⟨wz,hwz⟩:=x5_ (w1.alloc (.cells #[(0:Int),.bool false,(0:Int)] 67)) w (2:Int) (0:Int) (.bool false) (0:Int) (0:Int);have KZ:=K.o.set5 (2:Int) (0:Int) (.bool false) (0:Int) (0:Int);have HZ:=H_ (zee HB.o (le_ _) (2:Int) (0:Int) (.bool false) (0:Int) (0:Int));rw[<-hwz]at KZ HZ;obtain⟨q0,q1,q2,q3,q4⟩:=KZ.c5;clear KZ;have c0:=K.o.cell 0;have f0:=K.o.free 0;have c1:=K.o.cell 1;have f1:=K.o.free 1;have c2:=K.o.cell 2;have f2:=K.o.free 2;have c3:=K.o.cell 3;have f3:=K.o.free 3;have c4:=K.o.cell 4;have f4:=K.o.free 4;go_wp2;simp only[<-hwz];clear hwz;rw[HR.o];refine a_ (v:=zb4 (some ⟨2,Ψ,0⟩)) (by simp[results,results48,go_sem,q0,q1,q2,q3,q4,zb4,Ψ]) rfl ⟨rfl,HZ.o⟩
  | false=>
   have HSM:=H_ hsm;have hsm':(l==[115,105,109,112,108,101])=false:=hsm;clear hsm;go_wp2_with fail
   have⟨w2,hw2⟩:=xa_ w1 #[(0:Int),.bool false,(0:Int)] 67;rw[<-hw2];have hb:Below w1 w1 w2:=by rw[hw2];exact(B_ _ _).alloc (le_ _) _
   replace HE:=H_ (HE.o.below hb);replace K:=K.kb hb;replace HB:=HB.ts hb;clear hb hw2;refine(zuz l zba _ _ rfl rfl _).mono ?_;rintro e w' ⟨rfl,rfl⟩;cases hp:Lib.hasPrefix l zba with
   | false=>
    have HR:=H_ (zj3 HR1.o HSM.o (z0w hp));clear hp;have⟨wz,hwz⟩:=x5_ w2 w (0:Int) (0:Int) (.bool false) (0:Int) (0:Int);have KZ:=K.o.set5 (0:Int) (0:Int) (.bool false) (0:Int) (0:Int);have HZ:=H_ (zee HB.o (le_ _) (0:Int) (0:Int) (.bool false) (0:Int) (0:Int));rw[<-hwz]at KZ HZ;obtain⟨q0,q1,q2,q3,q4⟩:=KZ.c5;clear KZ;have c0:=K.o.cell 0;have f0:=K.o.free 0;have c1:=K.o.cell 1;have f1:=K.o.free 1;have c2:=K.o.cell 2;have f2:=K.o.free 2;have c3:=K.o.cell 3;have f3:=K.o.free 3;have c4:=K.o.cell 4;have f4:=K.o.free 4;go_wp2;simp only[<-hwz];clear hwz;rw[HR.o];refine a_ (v:=zb4 none) (by simp[results,results48,go_sem,q0,q1,q2,q3,q4,zgv]) rfl ⟨rfl,HZ.o⟩
   | true=>
    (have HNE:Q_ (l≠[]):=H_ (by intro h;rw[h] at hp;cases hp);have hpl:(Lib.trimPrefix l zba).length<=l.length:=by unfold Lib.trimPrefix;rw[l_ hp];simp);have⟨p,hp1⟩:=ex_ (Lib.trimPrefix l zba);rw[<-hp1]at hpl ⊢;have HP:=H_ hp1;clear hp1 hp;cases ha:zcn p with
    | none=>
     (have HR:=H_ (zj3 HR1.o HSM.o (zus (by rw[<-HP.o];exact ha)));go_wp2_with fail);refine(zmi p _ rfl _ HE.o (by omega) ha).mono ?_;rintro e w3 ⟨n,t,q,rfl,hb⟩;replace K:=K.kb hb;replace HB:=HB.ts hb;clear hb ha HE;have hb:Below w3 w3 (w3.alloc (.cells #[(1:Int),(0:Int),.bool false,(0:Int),.int .i64 n] 69)):=(B_ _ _).alloc (le_ _) _;replace K:=K.kb hb;replace HB:=HB.ts hb;clear hb;have⟨wz,hwz⟩:=x5_ (w3.alloc (.cells #[(1:Int),(0:Int),.bool false,(0:Int),.int .i64 n] 69)) w (0:Int) (0:Int) (.bool false) (0:Int) (0:Int);have KZ:=K.o.set5 (0:Int) (0:Int) (.bool false) (0:Int) (0:Int);have HZ:=H_ (zee HB.o (le_ _) (0:Int) (0:Int) (.bool false) (0:Int) (0:Int));rw[<-hwz]at KZ HZ;obtain⟨q0,q1,q2,q3,q4⟩:=KZ.c5;clear KZ;have c0:=K.o.cell 0;have f0:=K.o.free 0;have c1:=K.o.cell 1;have f1:=K.o.free 1;have c2:=K.o.cell 2;have f2:=K.o.free 2;have c3:=K.o.cell 3;have f3:=K.o.free 3;have c4:=K.o.cell 4;have f4:=K.o.free 4;go_wp2;simp only[<-hwz];clear hwz;rw[HR.o];refine a_ (v:=zb4 none) (by simp[results,results48,go_sem,q0,q1,q2,q3,q4,zgv]) rfl ⟨rfl,HZ.o⟩
    | some n=>
     go_wp2_with fail
     refine(zl7 p _ rfl n _ (by omega) ha).mono ?_;rintro e w3 ⟨rfl,hb⟩;have HA:=H_ ha;replace K:=K.kb hb;replace HB:=HB.ts hb;clear hb ha HE;go_wp2_with fail
     (have⟨w4,hw4⟩:=xa_ w3 #[(1:Int),(0:Int),.bool false,(0:Int),.int .i64 n] 69;rw[<-hw4];have hb:Below w3 w3 w4:=by rw[hw4];exact(B_ _ _).alloc (le_ _) _);(have K4:Q_ (Blk w3 (.cells #[(1:Int),(0:Int),.bool false,(0:Int),.int .i64 n] 69) w4):=by rw[hw4];exact H_ (θ _ _));replace K:=K.kb hb;replace HB:=HB.ts hb;clear hb hw4;refine(zzl ⟨1,Ψ,n⟩ _).mono ?_;rintro e w5 ⟨rfl,hb⟩;replace K4:=K4.kb hb;replace K:=K.kb hb;replace HB:=HB.ts hb;clear hb;have⟨d0,d1,d2,d3,d4⟩:=K4.o.c5;cases hq:(zak ⟨1,Ψ,n⟩==l)
     ·(have HR:=H_ (zj3 HR1.o HSM.o (zvu (n:=n) (by rw[<-HP.o];exact HA.o) (by simpa using hq))));have⟨wz,hwz⟩:=x5_ w5 w (0:Int) (0:Int) (.bool false) (0:Int) (0:Int);have KZ:=K.o.set5 (0:Int) (0:Int) (.bool false) (0:Int) (0:Int);have HZ:=H_ (zee HB.o (le_ _) (0:Int) (0:Int) (.bool false) (0:Int) (0:Int));rw[<-hwz]at KZ HZ;obtain⟨q0,q1,q2,q3,q4⟩:=KZ.c5;clear KZ;have c0:=K.o.cell 0;have f0:=K.o.free 0;have c1:=K.o.cell 1;have f1:=K.o.free 1;have c2:=K.o.cell 2;have f2:=K.o.free 2;have c3:=K.o.cell 3;have f3:=K.o.free 3;have c4:=K.o.cell 4;have f4:=K.o.free 4;go_wp2;simp only[<-hwz];clear hwz;rw[HR.o];refine a_ (v:=zb4 none) (by simp[results,results48,go_sem,q0,q1,q2,q3,q4,zgv]) rfl ⟨rfl,HZ.o⟩
     ·have HR:Q_ (za7 l=some ⟨1,Ψ,n⟩):=by
       obtain⟨g1,g2,g3⟩:=zqv (n:=n) (l:=l) (by simpa using hq) HNE.o;have:=zrf g3;rw[show ((n.toNat:Nat):Int)=n by omega]at this;exact H_ this
      have⟨wz,hwz⟩:=x5_ w5 w (1:Int) (0:Int) (.bool false) (0:Int) n;have KZ:=K.o.set5 (1:Int) (0:Int) (.bool false) (0:Int) n;have HZ:=H_ (zee HB.o (le_ _) (1:Int) (0:Int) (.bool false) (0:Int) n);rw[<-hwz]at KZ HZ;obtain⟨q0,q1,q2,q3,q4⟩:=KZ.c5;clear KZ;have c0:=K.o.cell 0;have f0:=K.o.free 0;have c1:=K.o.cell 1;have f1:=K.o.free 1;have c2:=K.o.cell 2;have f2:=K.o.free 2;have c3:=K.o.cell 3;have f3:=K.o.free 3;have c4:=K.o.cell 4;have f4:=K.o.free 4;go_wp2;simp only[<-hwz];clear hwz;rw[HR.o];refine a_ (v:=zb4 (some ⟨1,Ψ,n⟩)) (by simp[results,results48,go_sem,q0,q1,q2,q3,q4,zb4,Ψ]) rfl ⟨rfl,HZ.o⟩
def zgm(l:List UInt8)(n:Nat):Prop:=∀ k,k<n->k<100->zba++Γ k≠l
theorem zgm.step(h:zgm l n)(hne:zak ⟨1,Ψ,n⟩≠l)(hn:n<100):zgm l (n+1):=by
 intro k hk h1;by_cases hlt:k<n
 ·exact h k hlt h1
 ·obtain rfl:k=n:=by omega
  rw[zmf,l_ (by omega)]at hne;exact hne
theorem zgm.all(h:zgm l 100):zc0 l=none:=zhj λk hk=>h k hk hk
theorem zxp(h:l.length<=4\/l.head?≠some 98):zc0 l=none:=zhj λn hn e=>by
 subst e;rcases h with h|h
 ·simp[zba]at h
 ·exact h rfl
theorem znk(h2:(l==zdt)=false)(h3:zc0 l=none):za7 l=(za0 l).map λm=>⟨0,m,0⟩:=by
 cases h:za0 l with
 | some m=>rw[zqk h];rfl
 | none=>rw[zj3 h h2 h3];rfl
theorem eq98(c:UInt8):((c.toNat:Int)==98)=(c==98):=by
 rw[bz_];simp only[by_]
 constructor
 ·intro h;apply dl_.1;simpa using (by omega:c.toNat=98)
 ·intro h;subst h;rfl
theorem zmq(o:Option Mv):∃ m ok,m=o.getD Ψ/\ok=o.isSome/\zbi o=.tuple #[.agg #[.int .i64 m.which,.bool m.back,.int .i64 m.at_],.bool ok]/\zb4 (o.map λm=>⟨0,m,0⟩)=.tuple #[.agg #[(0:Int),.int .i64 m.which,.bool m.back,.int .i64 m.at_,(0:Int)],.bool ok]:=
 ⟨_,_,rfl,rfl,rfl,by cases o<;>rfl⟩
theorem zk5(l:List UInt8)(s:ByteArray)(hs:s=⟨l.toArray⟩)(w:World)(hl:l.length<=2097152):
    Calls prog 51 #[.string s] w λe w'=>e=.returned (zb4 (za7 l))/\Below w w w':=by
  subst hs;have⟨w0,hw0⟩:=xa_ w #[(0:Int),(0:Int),.bool false,(0:Int),(0:Int)] 69;have HB:Q_ (Below w w w0):=by rw[hw0];exact H_ ((B_ _ _).alloc (le_ _) _)
  have K:Q_ (Blk w (.cells #[(0:Int),(0:Int),.bool false,(0:Int),(0:Int)] 69) w0):=by rw[hw0];exact H_ (θ w _)
  cases hsm:l==zdt with
  | true=>
    (have HR:=H_ (zoa (l:=l) (by simpa using hsm));have hsm':(l==[115,105,109,112,108,101])=true:=hsm;clear hsm);go_enter func51,ntmps51
    go_wp2;rw[HR.o];refine a_ (v:=zb4 (some ⟨2,Ψ,0⟩)) (by simp[results,results51,go_sem,zb4,Ψ]) rfl ⟨rfl,(B_ _ _).alloc (le_ _) _⟩
  | false=>
    have hsm':(l==[115,105,109,112,108,101])=false:=hsm;have HSM:=H_ hsm;clear hsm;by_cases hgood:4<l.length/\l.head?=some 98
    · obtain⟨h4,h98⟩:=hgood
      obtain⟨r,rfl⟩:∃ r,l=98 :: r:=by
        cases l with
        | nil=>simp at h98
        | cons c r=>simp at h98;exact⟨r,by rw[h98]⟩
      (have hr4:4<=r.length:=by simp at h4;omega);clear h98 h4
      go_enter func51,ntmps51
      go_wp2_with fail
      simp only[<-hw0];clear hw0;go_loopw [4] (λi wr=>∃ n:Nat,n<=100/\i=.int .i64 n/\Q_ (zgm (98 :: r) n)/\Q_ (Blk w (.cells #[(0:Int),(0:Int),.bool false,(0:Int),(0:Int)] 69) wr)/\Q_ (Below w w wr)) (λi _=>100-(intOf i).toNat)
      case atStart=>exact⟨0,by omega,rfl,H_ (by intro k hk;omega),K,HB⟩
      case round=>
        clear HB K;obtain⟨n,hn,rfl,HN,K,HB⟩:=hrel;by_cases hlt:n<100
        · go_wp2_with fail
          refine(zr9 ⟨1,Ψ,n⟩ _).mono ?_;rintro e w5 ⟨rfl,hb⟩;replace K:=K.kb hb;replace HB:=HB.ts hb;clear hb;cases hq:(zak ⟨1,Ψ,n⟩==98 :: r)
          · go_wp2
            go_roundw
            (case rel=>exact⟨n+1,by omega,by go_num,H_ (HN.o.step (by simpa using hq) hlt),K,HB⟩);case measure=>simp[intOf];omega
          · have HR:Q_ (za7 (98 :: r)=some ⟨1,Ψ,n⟩):=by
              obtain⟨g1,g2,g3⟩:=zqv (n:=n) (l:=98 :: r) (by simpa using hq) (by simp);exact H_ (zrf g3)
            have⟨wz,hwz⟩:=x5_ w5 w (1:Int) (0:Int) (.bool false) (0:Int) n;have KZ:=K.o.set5 (1:Int) (0:Int) (.bool false) (0:Int) n;have HZ:=H_ (zee HB.o (le_ _) (1:Int) (0:Int) (.bool false) (0:Int) n);rw[<-hwz]at KZ HZ;obtain⟨q0,q1,q2,q3,q4⟩:=KZ.c5;clear KZ;have c0:=K.o.cell 0;have f0:=K.o.free 0;have c1:=K.o.cell 1;have f1:=K.o.free 1;have c2:=K.o.cell 2;have f2:=K.o.free 2;have c3:=K.o.cell 3;have f3:=K.o.free 3;have c4:=K.o.cell 4;have f4:=K.o.free 4;go_wp2;simp only[<-hwz];clear hwz;rw[HR.o];refine a_ (v:=zb4 (some ⟨1,Ψ,n⟩)) (by simp[results,results51,go_sem,q0,q1,q2,q3,q4,zb4,Ψ]) rfl ⟨rfl,HZ.o⟩
        · obtain rfl:n=100:=by omega
          (have HR:=H_ (znk HSM.o HN.o.all);go_wp2_with fail);obtain⟨m,ok,hm,hok,hq1,hq2⟩:=zmq (za0 (98 :: r));have HQ1:=H_ hq1;have HQ2:=H_ hq2;clear hm hok hq1 hq2;refine(zln (98 :: r) _ rfl _ hl).mono ?_;rintro e w6 ⟨rfl,hb⟩;rw[HQ1.o];replace K:=K.kb hb;replace HB:=HB.ts hb;clear hb;have hb:Below w6 w6 (w6.alloc (.cells #[.int .i64 m.which,.bool m.back,.int .i64 m.at_] 67)):=(B_ _ _).alloc (le_ _) _;replace K:=K.kb hb;replace HB:=HB.ts hb;clear hb;have⟨wz,hwz⟩:=x5_ (w6.alloc (.cells #[.int .i64 m.which,.bool m.back,.int .i64 m.at_] 67)) w (0:Int) (.int .i64 m.which) (.bool m.back) (.int .i64 m.at_) (0:Int);have KZ:=K.o.set5 (0:Int) (.int .i64 m.which) (.bool m.back) (.int .i64 m.at_) (0:Int);have HZ:=H_ (zee HB.o (le_ _) (0:Int) (.int .i64 m.which) (.bool m.back) (.int .i64 m.at_) (0:Int));rw[<-hwz]at KZ HZ;obtain⟨q0,q1,q2,q3,q4⟩:=KZ.c5;clear KZ;have c0:=K.o.cell 0;have f0:=K.o.free 0;have c1:=K.o.cell 1;have f1:=K.o.free 1;have c2:=K.o.cell 2;have f2:=K.o.free 2;have c3:=K.o.cell 3;have f3:=K.o.free 3;have c4:=K.o.cell 4;have f4:=K.o.free 4;go_wp2;simp only[<-hwz];clear hwz;rw[HR.o,HQ2.o];refine a_ (v:=.tuple #[.agg #[(0:Int),.int .i64 m.which,.bool m.back,.int .i64 m.at_,(0:Int)],.bool ok]) (by simp[results,results51,go_sem,q0,q1,q2,q3,q4]) rfl ⟨rfl,HZ.o⟩
    · have HR:=H_ (znk HSM.o (zxp (l:=l) (by
        rcases ay_ 4 l.length with h|h
        · right;intro h';exact hgood ⟨h,h'⟩
        · left;exact h)))
      by_cases h4:4<l.length
      · obtain⟨c,r,rfl⟩:∃ c r,l=c :: r:=by
          cases l with
          | nil=>simp at h4
          | cons c r=>exact⟨c,r,rfl⟩
        have hc:(c==98)=false:=by
          cases hc:c==98
          · rfl
          · exact absurd ⟨h4, by have : c = 98 := by simpa using hc
                                 rw[this];rfl⟩ hgood
        (have h0:0<(ByteArray.mk (c :: r).toArray).size:=by show 0<(c :: r).toArray.size;simp);(have hc':((((ByteArray.mk (c :: r).toArray)[0]'h0).toNat:Int)==98)=false:=by rw[idx0,eq98,hc]);(have hr4:4<=r.length:=by simp at h4;omega);clear hgood h4 hc
        go_enter func51,ntmps51
        go_wp2_with fail
        simp only[<-hw0];clear hw0;go_loopw [4] (λi wr=>i=.int .i64 0/\Q_ (Blk w (.cells #[(0:Int),(0:Int),.bool false,(0:Int),(0:Int)] 69) wr)/\Q_ (Below w w wr)) (λi _=>100-(intOf i).toNat)
        case atStart=>exact⟨rfl,K,HB⟩
        case round=>
          clear HB K;obtain⟨rfl,K,HB⟩:=hrel;go_wp2_with fail
          obtain⟨m,ok,hm,hok,hq1,hq2⟩:=zmq (za0 (c :: r));have HQ1:=H_ hq1;have HQ2:=H_ hq2;clear hm hok hq1 hq2;refine(zln (c :: r) _ rfl _ hl).mono ?_;rintro e w6 ⟨rfl,hb⟩;rw[HQ1.o];replace K:=K.kb hb;replace HB:=HB.ts hb;clear hb;have hb:Below w6 w6 (w6.alloc (.cells #[.int .i64 m.which,.bool m.back,.int .i64 m.at_] 67)):=(B_ _ _).alloc (le_ _) _;replace K:=K.kb hb;replace HB:=HB.ts hb;clear hb;have⟨wz,hwz⟩:=x5_ (w6.alloc (.cells #[.int .i64 m.which,.bool m.back,.int .i64 m.at_] 67)) w (0:Int) (.int .i64 m.which) (.bool m.back) (.int .i64 m.at_) (0:Int);have KZ:=K.o.set5 (0:Int) (.int .i64 m.which) (.bool m.back) (.int .i64 m.at_) (0:Int);have HZ:=H_ (zee HB.o (le_ _) (0:Int) (.int .i64 m.which) (.bool m.back) (.int .i64 m.at_) (0:Int));rw[<-hwz]at KZ HZ;obtain⟨q0,q1,q2,q3,q4⟩:=KZ.c5;clear KZ;have c0:=K.o.cell 0;have f0:=K.o.free 0;have c1:=K.o.cell 1;have f1:=K.o.free 1;have c2:=K.o.cell 2;have f2:=K.o.free 2;have c3:=K.o.cell 3;have f3:=K.o.free 3;have c4:=K.o.cell 4;have f4:=K.o.free 4;go_wp2;simp only[<-hwz];clear hwz;rw[HR.o,HQ2.o];refine a_ (v:=.tuple #[.agg #[(0:Int),.int .i64 m.which,.bool m.back,.int .i64 m.at_,(0:Int)],.bool ok]) (by simp[results,results51,go_sem,q0,q1,q2,q3,q4]) rfl ⟨rfl,HZ.o⟩
      · have h4':l.length<=4:=by omega
        clear hgood h4
        go_enter func51,ntmps51
        go_wp2_with fail
        simp only[<-hw0];clear hw0;go_loopw [4] (λi wr=>i=.int .i64 0/\Q_ (Blk w (.cells #[(0:Int),(0:Int),.bool false,(0:Int),(0:Int)] 69) wr)/\Q_ (Below w w wr)) (λi _=>100-(intOf i).toNat)
        case atStart=>exact⟨rfl,K,HB⟩
        case round=>
          clear HB K;obtain⟨rfl,K,HB⟩:=hrel;go_wp2_with fail
          obtain⟨m,ok,hm,hok,hq1,hq2⟩:=zmq (za0 (l));have HQ1:=H_ hq1;have HQ2:=H_ hq2;clear hm hok hq1 hq2;refine(zln (l) _ rfl _ hl).mono ?_;rintro e w6 ⟨rfl,hb⟩;rw[HQ1.o];replace K:=K.kb hb;replace HB:=HB.ts hb;clear hb;have hb:Below w6 w6 (w6.alloc (.cells #[.int .i64 m.which,.bool m.back,.int .i64 m.at_] 67)):=(B_ _ _).alloc (le_ _) _;replace K:=K.kb hb;replace HB:=HB.ts hb;clear hb;have⟨wz,hwz⟩:=x5_ (w6.alloc (.cells #[.int .i64 m.which,.bool m.back,.int .i64 m.at_] 67)) w (0:Int) (.int .i64 m.which) (.bool m.back) (.int .i64 m.at_) (0:Int);have KZ:=K.o.set5 (0:Int) (.int .i64 m.which) (.bool m.back) (.int .i64 m.at_) (0:Int);have HZ:=H_ (zee HB.o (le_ _) (0:Int) (.int .i64 m.which) (.bool m.back) (.int .i64 m.at_) (0:Int));rw[<-hwz]at KZ HZ;obtain⟨q0,q1,q2,q3,q4⟩:=KZ.c5;clear KZ;have c0:=K.o.cell 0;have f0:=K.o.free 0;have c1:=K.o.cell 1;have f1:=K.o.free 1;have c2:=K.o.cell 2;have f2:=K.o.free 2;have c3:=K.o.cell 3;have f3:=K.o.free 3;have c4:=K.o.cell 4;have f4:=K.o.free 4;go_wp2;simp only[<-hwz];clear hwz;rw[HR.o,HQ2.o];refine a_ (v:=.tuple #[.agg #[(0:Int),.int .i64 m.which,.bool m.back,.int .i64 m.at_,(0:Int)],.bool ok]) (by simp[results,results51,go_sem,q0,q1,q2,q3,q4]) rfl ⟨rfl,HZ.o⟩
end Go.Proofs.YtfnnhimopokpnaaGreatDoor
