/- Lemmas for this seat; no condition. -/
import Derived.Test.YtfnnhimopokpnaaGreatDoorHDAN
import Derived.Test.YtfnnhimopokpnaaGreatDoorHDAO
import Derived.Deep.AppendLies
namespace Go.Proofs.YtfnnhimopokpnaaGreatDoor
open Go.RowKit Proofs.Tryz
set_option maxRecDepth 100000
set_option maxHeartbeats 0
set_option linter.all false
variable {L:List (List Int)} {sz lo lo' hi hi' e n n' g k m B r cnt cap mb:Nat} {w w' w3 wr wx w7 w9 wy wm w1 w2 wS w5:World} {v v' va vb v9 x0 x1 s v1 v2 v3 v4 X Y lv:Value} {xs ss:List Value} {x t f:List Int} {p q:Nat × Nat}
section
theorem zsj(α:Nat)(c:Int)(w:World)(hα:α<4)(h1:16<=c)(h2:c<=18):Calls prog 181 #[.int .i64 α,.int .i64 c] w λe w'=>e=.returned (.int .i64 (3*(α:Int)+c-16))/\w=w':=by
 go_enter func181,ntmps181
 go_wp2;go_ret;exact⟨rfl,rfl⟩
noncomputable def zeh(L:List (List Int))(t:KT)(m n k:Nat):Nat:=if k<m then bitsN L.length (λj=>L.getD j []∈moveP t k) else if k=m then bitsN L.length (λj=>L.getD j []∈(moveP t m).take n) else 0
noncomputable def zas(L:List (List Int))(t:KT)(m n:Nat):List Int:=(List.range 12).map λk=>((zeh L t m n k:Nat):Int)
theorem zme(L:List (List Int))(t:KT)(m n:Nat):(zas L t m n).length=12:=by simp[zas]
theorem zgh(L:List (List Int))(t:KT)(m n k:Nat)(h:k<(zas L t m n).length):(zas L t m n)[k]=((zeh L t m n k:Nat):Int):=by simp[zas]
theorem zp6(n:Nat)(p:Nat->Prop)(h:∀ k,k<n->¬p k):bitsN n p=0:=(bitsN_eq (by exact cz_ n) λk hk=>by simp[h k hk]).symm
theorem ztz(L:List (List Int))(t:KT):zas L t 0 0=List.replicate 12 0:=by
 refine bd_ (by simp[zas]) λk h1 h2=>?_
 rw[zgh,List.getElem_replicate];unfold zeh;rw[m_ (by omega)]
 split
 ·rw[zp6 _ _ λk _=>by simp];rfl
 ·rfl
theorem z2j(L:List (List Int))(t:KT)(m n:Nat)(h:(moveP t m).length<=n):zas L t m n=zas L t (m+1) 0:=by
 refine bd_ (by simp[zas]) λk h1 h2=>?_
 rw[zgh,zgh];unfold zeh;by_cases hk:k<m
 ·rw[x_ hk,x_ (by omega)]
 ·rw[m_ hk]
  by_cases hm:k=m
  ·subst hm
   rw[x_ rfl,x_ (by omega),ay_ h]
  ·rw[m_ hm,m_ (by omega)]
   split
   ·rw[zp6 _ _ λk _=>by simp]
   ·rfl
theorem zwk(L:List (List Int))(x:List Int):zas L (Τ x) 12 0=nextL L x:=by
 refine bd_ (by simp[zas,nextL]) λk h1 h2=>?_
 rw[zgh];simp only[zme]at h1;unfold zeh nextL;rw[x_ h1];simp[setL]
theorem z2n(hn:L.Nodup){i:Nat}(hi:i<L.length):zd3 (eqL L[i]) L=(i:Nat):=by
 refine zsq _ _ i hi (zhu _) λn hn' h=>?_
 rw[zed,ea_];exact λe=>bt_.1 hn n i h hi hn' e.symm
theorem z2a(hd:L.Nodup){t:KT}{m n i:Nat}(hm:m<12)(hn:n<(moveP t m).length)(hi:i<L.length)(he:L[i]=(moveP t m)[n]):
  zas L t m (n+1)=(zas L t m n).set m ((zeh L t m n m ||| 2 ^ i:Nat):Int):=by
 refine bd_ (by simp[zas]) λk h1 h2=>?_
 rw[d9_,zgh,zgh];by_cases hk:m=k
 ·subst hk
  rw[x_ rfl];unfold zeh;rw[m_ (by omega),x_ rfl,m_ (by omega),x_ rfl]
  congr 1
  refine(bitsN_eq ?_ λk hk=>?_).symm
  ·exact ce_ (bitsN_lt _ _) (dm_ (by omega) hi)
  ·rw[c9_,cy_,bitsN_bit,dp_,t_,F_ hn,E_,k_,<-he]
   rw[show L.getD k []=L[k] by simp[List.getD,l_ hk]]
   constructor
   ·rintro(⟨_,h⟩|h)
    ·exact .inl h
    ·subst h;exact .inr rfl
   ·rintro(h|h)
    ·exact .inl ⟨hk,h⟩
    ·right
     by_cases e:i=k
     ·exact e
     ·rcases Nat.lt_or_gt_of_ne e with e|e
      ·exact absurd h.symm (bt_.1 hd i k hi hk e)
      ·exact absurd h (bt_.1 hd k i hk hi e)
 ·rw[m_ hk]
  unfold zeh;by_cases h:k<m
  ·rw[x_ h,x_ h]
  ·rw[m_ h,m_ h,m_ (Ne.symm hk),m_ (Ne.symm hk)]
theorem z11(L:List (List Int))(t:KT)(m n k:Nat):zeh L t m n k<2 ^ L.length:=by
 unfold zeh
 split
 ·exact bitsN_lt _ _
 ·split
  ·exact bitsN_lt _ _
  ·exact cz_ _
section
variable {P:Program} {w:World}
theorem zig {ops:Array Oper} {o:Oper} {a:Act} {K:Act->World->Prop} {Q:Exit->Act->World->Prop} {E:Prop}(hgd:o.guard=none)(s x:Operand)(t:TypeId)
  (ho:o.op=.call { callee:=.builtin .append,args:=#[s,x],argTypes:=#[t,t] })
  (e:TypeId) (z:Value) (sz bytes:Nat) (ht:P.underlying t=some (.slice e)) (hinfo:(P.info? e).map (λi=>(i.zero,i.size,i.bytes))=some (some z,sz,bytes))
  (hzs:z.cells.size=sz) (hsz:0<sz) (hby:bytes<=64)
  {lo hi lo' hi' n:Nat} {v:Value} {xs:List Value} (hs:a.eval s=v) (hown:Own sz lo hi e w v n xs)
  {ad:Addr} {m c:Nat} {ys:List Value} (hx:a.eval x=.slice (some ad) m c) (hsl:Sl sz lo' hi' w (.slice (some ad) m c) m ys) (h1:∀ u∈ys,u.oneCell'=true) (hm:0<m)
  (hn:n+m<=1073741824) (hlo:lo<=w)
  (h:∀ v' w',Own sz lo w'.heap.size e w' v' (n+m) (xs++ys)->w.grownBy w' v.ownBlock->(v'.ownBlock=v.ownBlock\/v'.ownBlock=some w.heap.size)->K (a.put o.dst v') w') :
  if Region.wanted o (yielded ops a.tmps)=true then Oper.wp P o a w K Q else E:=by
 obtain⟨i,hi0,hz,hsize,hb⟩:=b8_ hinfo;obtain⟨ao,c',e',hmc,hcm,hlen,hnone,hc⟩:=hsl;injection e' with e1 e2 e3;subst e1 e3;have hmx:(n+m)*bytes<=140737488355328:=J_ (bk_ hn hby) (by decide);refine step_append_lies (w:=w) hgd s x t ho lo e i z sz bytes ht hi0 hz hsize hb hzs hsz v n xs hs hown.1 ad m c ys hx hlen ?_ h1 hm (by unfold maxLen;omega) hmx hlo w rfl ?_
 ·intro j u hu
  have hj:=(a3_.1 hu).1;obtain⟨b,off,e1,_,_,_,e2⟩:=hc j hj;injection e1 with e1;subst e1;rw[a5_,e2,hu]
 ·intro g cap w' h2 h3 h4 h5
  refine h _ w' (zfs h2) h3 ?_;rcases h4 with h4|h4
  ·exact .inl h4.symm
  ·exact .inr (by rw[h4];rfl)
end
theorem zlj {sz' e':Nat} {xs':List Value}(h:Own sz lo hi e w v n xs)(h':Own sz' lo' hi' e' w v' n' xs')(hne:e≠e'):v.ownBlock=none\/v.ownBlock≠v'.ownBlock:=by
 cases hub:v.ownBlock with
 | none=>exact .inl rfl
 | some k=>
  right
  intro eq;rcases h.1.2 with⟨rfl,_⟩|⟨g,cap,cur,rfl,_,hg,_⟩
  ·cases hub
  ·rcases h'.1.2 with⟨rfl,_⟩|⟨gO,capO,curO,rfl,_,hgO,_⟩
   ·cases eq
   ·simp only[Value.ownBlock,ar_]at hub eq
    rw[hub,eq,hgO]at hg;injection hg with hg;injection hg with _ h2 _;exact hne h2.symm
theorem Own.keep(h:Own sz lo hi e w v n xs)(hg:w.grownBy w' v'.ownBlock)(hne:v.ownBlock=none\/v.ownBlock≠v'.ownBlock):Own sz lo hi e w' v n xs:=⟨h.1.kept hg hne,h.2⟩
theorem Own.of_blk {cs:List Value}(h:Blk g (.cells cs.toArray e (0,0)) w)(hl:cs.length=n*sz)(hn:n<=1048576):Own sz g (g+1) e w (.slice (q_ g 0) n n) n cs:=
 ⟨⟨hl,.inr ⟨g,n,cs.toArray,rfl,le_ _,h,le_ _,by unfold maxLen;omega,by simpa using hl,by simp[<-hl]⟩⟩,λk hk=>by simp[Value.ownBlock] at hk;omega⟩
structure AUI(g:Nat)(w3 wr:World)(L:List (List Int))(k:Nat)(va vb:Value)(ss:List Value):Prop where
 blk:Blk g (.cells #[va,vb] 123) wr
 ends:γ w3 wr 3 wr va ((L.take k).map endL)
 next:LLs w3 wr wr vb ss ((L.take k).map (nextL L))
 far:∀ u∈ss,u.ownBlock=none\/u.ownBlock≠va.ownBlock
 o:β g (g+1) w3 wr
structure AUH(g:Nat)(w3 wr:World)(L:List (List Int))(k:Nat)(va vb:Value)(ss:List Value)(row:Value)(x:List Int):Prop where
 blk:Blk g (.cells #[va,vb] 123) wr
 ends:γ w3 wr 3 wr va ((L.take k).map endL++[endL x])
 next:LLs w3 wr wr vb ss ((L.take k).map (nextL L))
 far:∀ u∈ss,u.ownBlock=none\/u.ownBlock≠va.ownBlock
 hrow:γ w3 wr 3 wr row (nextL L x)
 rfar:row.ownBlock=none\/row.ownBlock≠va.ownBlock
 o:β g (g+1) w3 wr
theorem AUI.go(h:AUI g w3 wr L k va vb ss)(hb:Below wr wr wx):AUI g w3 wx L k va vb ss:=
 ⟨h.blk.below hb h.blk.lt,(h.ends.below hb (le_ _)).lower (le_ _) hb.size,(h.next.below hb (le_ _)).lower (le_ _) hb.size,h.far,h.o.trans (β.of_below hb (le_ _))⟩
theorem AUI.endsPut {row:Value}(h:AUI g w3 w7 L k va vb ss)(hg:g+1<=w3.heap.size)(hk:k<=L.length)
  (hro:γ w3 w7 3 w7 row (nextL L x)) (hrf:row.ownBlock=none\/row.ownBlock≠va.ownBlock)
  (ho:Own 1 w3 w9 3 w9 v9 (k+1) (δ ((L.take k).map endL)++[.int .i64 (endL x)])) (hgr:(w7.alloc (.cells #[.int .i64 (endL x)] 3)).grownBy w9 va.ownBlock)
  (hl:v9.ownBlock=va.ownBlock\/v9.ownBlock=some (w7.alloc (.cells #[.int .i64 (endL x)] 3)).heap.size):AUH g w3 (w9.setCell (p_ g 0) v9) L k v9 vb ss row x:=by
 have ha:=ζ w7 (.cells #[.int .i64 (endL x)] 3);have hz:(w7.alloc (.cells #[.int .i64 (endL x)] 3)).heap.size=w7.heap.size+1:=μ _ _;have hz9:=hgr.size;have hO:=β.put g 0 w9 v9;have hzO:=hO.size;have h1:=h.go ha;have hsz3:=h.o.size;have hgo:=zb1 hgr h1.ends.lt;have hr1:=hro.below ha (le_ _);refine⟨?_,?_,⟨?_,h.next.2.1,λi p1 p2=>?_⟩,λu hu=>?_,?_,?_,?_⟩
 ·exact(h1.blk.outside hgo (by omega)).put 0 v9
 ·have:=(show Own 1 w3 w9 3 w9 v9 (k+1) (δ ((L.take k).map endL++[endL x])) by rw[zaa];exact ho)
  exact(γ.len this (by simp;omega)).outside hO (.inr hg) |>.lower (le_ _) hzO
 ·exact(((h1.next.1.keep hgr (zlj h1.next.1 h1.ends (by decide))).outside hO (.inr hg))).wide2 (le_ _) (by omega)
 ·exact(((h1.next.2.2 i p1 p2).keep hgr (h.far _ (u_ p1))).outside hO (.inr hg)).wide2 (le_ _) (by omega)
 ·rcases hl with e|e
  ·rw[e];exact h.far u hu
  ·obtain⟨i,hi,rfl⟩:=ax_ hu
   rw[e];cases hb:ss[i].ownBlock with
   | none=>exact .inl rfl
   | some j=>
    right
    have:=(h.next.2.2 i hi (by rw[<-h.next.2.1];exact hi)).2 j hb;simp;omega
 ·exact((hr1.keep hgr hrf).outside hO (.inr hg)).wide2 (le_ _) (by omega)
 ·rcases hl with e|e
  ·rw[e];exact hrf
  ·rw[e]
   cases hb:row.ownBlock with
   | none=>exact .inl rfl
   | some j=>
    right
    have:=hro.2 j hb;simp;omega
 ·exact(h1.o.fresh hgo (le_ _)).trans hO
theorem AUH.nextPut {row:Value}(hk:k<L.length)(h:AUH g w3 wx L k va vb ss row L[k])(hg:g+1<=w3.heap.size)
  (ho:Own 1 w3 w9 22 w9 v9 (ss.length+1) (ss++[row])) (hgr:(wx.alloc (.cells #[row] 22)).grownBy w9 vb.ownBlock):AUI g w3 (w9.setCell (p_ g 1) v9) L (k+1) va v9 (ss++[row]):=by
 have ha:=ζ wx (.cells #[row] 22);have hz:(wx.alloc (.cells #[row] 22)).heap.size=wx.heap.size+1:=μ _ _;have hz9:=hgr.size;have hO:=β.put g 1 w9 v9;have hzO:=hO.size;have hsz3:=h.o.size;have hx1:Own 1 w3 (wx.alloc (.cells #[row] 22)).heap.size 22 (wx.alloc (.cells #[row] 22)) vb ss.length ss:=(h.next.1.below ha (le_ _)).wide2 (le_ _) (by omega);have hgo:=zb1 hgr hx1.lt;have he:=h.ends.below ha (le_ _);have hn:=zga h.next h.hrow ho hgr;refine⟨?_,?_,?_,λu hu=>?_,?_⟩
 ·exact((h.blk.below ha h.blk.lt).outside hgo (by omega)).put 1 v9
 ·rw[F_ hk,by_]
  exact((he.keep hgr (zlj he hx1 (by decide))).outside hO (.inr hg)).wide2 (le_ _) (by omega)
 ·rw[F_ hk,by_]
  exact(hn.1.outside hO (.inr hg)).lower (le_ _) hzO
 ·rcases E_.1 hu with hu|hu
  ·exact h.far u hu
  ·simp only[k_]at hu
   subst hu;exact h.rfar
 ·exact((h.o.trans (β.of_below ha (le_ _))).fresh hgo (le_ _)).trans hO
theorem AUI.endsK(h:AUI g w3 wr L k va vb ss)(hk:k<=L.length):Own 1 w3 wr 3 wr va k (δ ((L.take k).map endL)):=by
 have h1:=h.ends;unfold γ at h1
 rwa [show ((L.take k).map endL).length=k by simp;omega]at h1
theorem AUI.blk9 {o:Obj}(h:AUI g w3 w7 L k va vb ss)(hg:g+1<=w3.heap.size)(hgr:(w7.alloc o).grownBy w9 va.ownBlock):Blk g (.cells #[va,vb] 123) w9:=
 (h.go (ζ w7 o)).blk.outside (zb1 hgr (h.go (ζ w7 o)).ends.lt) (by omega)
theorem AUH.blk9 {row:Value} {o:Obj}(h:AUH g w3 w7 L k va vb ss row x)(hg:g+1<=w3.heap.size)(hgr:(w7.alloc o).grownBy w9 vb.ownBlock):Blk g (.cells #[va,vb] 123) w9:=
 (h.blk.below (ζ w7 o) h.blk.lt).outside (zb1 hgr ((h.next.1.below (ζ w7 o) (le_ _)).wide2 (le_ _) (ζ w7 o).size).lt) (by omega)
def AuW(lo hi:Nat)(w:World)(v:Value)(a:Au):Prop:=∃ va vb ss,v=.agg #[va,vb]/\γ lo hi 3 w va a.ends/\LLs lo hi w vb ss a.next
theorem AuW.nils(B hi:Nat)(w:World):AuW B hi w (.agg #[(),()]) ⟨[],[]⟩:=⟨_,_,[],rfl,Ω _ _ _ _ _,zfu _ _ _⟩
theorem Blk.au2 {e:TypeId}(h:Blk g (.cells #[x0,x1] e (0,0)) w)(a b:Value):Blk g (.cells #[a,b] e (0,0)) ((w.setCell (p_ g 0) a).setCell (p_ g 1) b):=(h.put 0 a).put 1 b
theorem β.set2'(g:Nat)(w:World)(a b:Value):β g (g+1) w ((w.setCell (p_ g 0) a).setCell (p_ g 1) b):=
 ((β.refl _ _ _).setCell (p:=p_ g 0) (le_ _) (D_ _) _).setCell (p:=p_ g 1) (le_ _) (D_ _) _
theorem z10:madeCells (Value.int .i64 0).cells (12*1)=#[.int .i64 0,.int .i64 0,.int .i64 0,.int .i64 0,.int .i64 0,.int .i64 0,.int .i64 0,.int .i64 0,.int .i64 0,.int .i64 0,.int .i64 0,.int .i64 0]:=by kernel_rfl
theorem zzj(w:World):(Instr.makeSlice 22 (12:Int) (12:Int)).run prog w=.ok (.slice (q_ w 0) 12 12) (w.alloc (.cells #[(0:Int),(0:Int),(0:Int),(0:Int),(0:Int),(0:Int),(0:Int),(0:Int),(0:Int),(0:Int),(0:Int),(0:Int)] 3)):=by
 obtain⟨i,hi0,hz,hsize,hb⟩:=b8_ ω;have h:=run_makeSlice (P:=prog) (w:=w) 22 3 i _ underlying22 hi0 hz .i64 .i64 12 12 (by decide) (by decide) (by rw[hsize];decide) (by rw[hb];decide) (by decide);rw[hsize]at h;rw[show ((12:Int)).toNat=12 from rfl,z10]at h;exact h
theorem zya {cv i:Nat}(hc:cv<1024)(hi:i<10):bits .or .i64 (cv:Int) (IntKind.i64.wrap (2 ^ i))=((cv ||| 2 ^ i:Nat):Int):=by
 have h2:2 ^ i<2 ^ 10:=dm_ (by omega) hi
 have e:IntKind.i64.wrap (2 ^ i)=((2 ^ i:Nat):Int):=by
  have:=zd1 (2 ^ i) (by omega);rw[<-this];push_cast;rfl
 rw[e,zko _ _ (by omega) (by omega)]
theorem z1c {t:KT} {x:Int}(h:Blk g (.cells (δ (zas L t m n)).toArray 3 (0,0)) w)(e:zas L t m (n+1)=(zas L t m n).set m x):
  Blk g (.cells (δ (zas L t m (n+1))).toArray 3 (0,0)) (w.setCell (p_ g m) x):=by
 have:=h.put m x;rw[e];rw[show (δ ((zas L t m n).set m x)).toArray=(δ (zas L t m n)).toArray.setIfInBounds m x by simp[δ,List.map_set]];exact this
theorem zqk(lo hi:Nat)(v:Value)(e:List Int)(w:World)(hx:SlI lo hi w v e)(hh:hi<=w)(hm:e.length<=1048576):
  Calls prog 180 #[v] w (ι λv' w'=>AuW w w' w' v' (autV e)/\Below w w w'):=by
 have⟨w0,hw0⟩:=xa_ w #[(),()] 123;have HB:Q_ (Below w w w0):=by rw[hw0];exact H_ ((B_ _ _).alloc (le_ _) _)
 have K1:Q_ (Blk w (.cells #[(),()] 123) w0):=by rw[hw0];exact H_ (κ w _)
 have hsz:w0=w.heap.size+1:=by rw[hw0];simp
 have⟨hz1,hz2⟩:w+1<=w0.heap.size/\w0<=w.heap.size+1:=by omega
 have HX:=H_ (hx.below HB.o hh);obtain⟨a,cap,rfl,hcap,hcm⟩:=π hx;clear hx hsz;cases hv:ν e
 ·have HE:=H_ (show autV e=⟨[],[]⟩ by unfold autV;rw[hv];rfl)
  go_enter func180,ntmps180
  go_wp2_with fail
  simp only[<-hw0];clear hw0;refine(zc3 _ _ _ e _ HX.o hm).mono ?_;rintro e_ w1 ⟨rfl,rfl⟩;have⟨c0,c1⟩:=K1.o.c2;have⟨f0,f1⟩:=K1.o.f2;rw[hv];go_wp2;have⟨wz,hwz⟩:=x2_ w0 w () ();have KZ:=K1.o.au2 () ();have HO:=β.set2' w w0 () ();rw[<-hwz]at KZ HO;simp only[<-hwz];obtain⟨q0,q1⟩:=KZ.c2;refine d_ (v:=.agg #[(),()]) (by simp[results,results180,go_sem,q0,q1]) rfl (ι.mk _ rfl ⟨?_,ε HB.o HO (le_ _) HB.o.size⟩);rw[HE.o];exact AuW.nils _ _ _
 ·obtain⟨t0,ht0,hp0,hr0,hs0⟩:=zex hv
  subst hp0;have HAR:=H_ (allV_all ht0 hs0);have HT0:=H_ ht0
  go_enter func180,ntmps180
  go_wp2_with fail
  simp only[<-hw0];clear hw0;refine(zc3 _ _ _ t0.post _ HX.o hm).mono ?_;rintro e_ w1 ⟨rfl,rfl⟩;rw[hv];go_wp2_with fail
  refine(z0s _ _ _ t0 w0 HX.o (by omega) HT0.o hs0).mono ?_;rintro e2 w2 ⟨v2,rfl,⟨sl,hl2⟩,hb2⟩;have hz2':=hb2.size;obtain⟨la,lc,rfl⟩:=η hl2.1;have hsl:sl.length<=41:=by rw[hl2.2.1];exact HAR.o.len
  have HSL:=H_ hl2.2.1;have HL:=H_ hl2;have HB2:=HB.tr hb2 (by omega);have K2:=H_ (K1.o.below hb2 (by omega));have HKV:=H_ hv;have⟨L,hL⟩:=ex_ (allV t0.post);rw[<-hL]at HL HAR HSL;have HLE:=H_ hL;clear hl2 hb2 hr0 hv hL;by_cases h10:sl.length<=10
  ·have hd10:decide ((10:Int)<(sl.length:Int))=false:=by simp;omega
   have⟨w3,hw3⟩:=xa_ w2 #[(),()] 123;have hz3:w3=w2.heap.size+1:=by rw[hw3];simp
   have HB3:Q_ (Below w2 w2 w3):=by rw[hw3];exact H_ (ζ _ _)
   have HI:Q_ (AUI w2 w3 w3 L 0 () () []):=by
    refine H_ ⟨?_,Ω _ _ _ _ _,zfu _ _ _,λu hu=>by simp at hu,β.refl _ _ _⟩;rw[hw3];exact κ w2 _
   have⟨hz3a,hz3b⟩:w2+1<=w3.heap.size/\w3<=w2.heap.size+1:=by omega
   clear hz3;go_wp2_with fail
   simp only[<-hw3];clear hw3;go_loopw [25] (λi wr=>∃ (k:Nat) (va vb:Value) (ss:List Value),k<=sl.length/\i=.int .i64 k/\Q_ (AUI w2 w3 wr L k va vb ss)) (λi _=>sl.length-(intOf i).toNat)
   case atStart=>exact⟨0,_,_,_,by omega,rfl,HI⟩
   case round=>
    rename World=>wk
    clear HI;obtain⟨k,va,vb,ss,hk,rfl,HI⟩:=hrel;have hzk:=HI.o.o.size;have HBk:=H_ (ε HB3.o HI.o.o (le_ _) (by omega));by_cases hlt:k<sl.length
    ·(have hkL:k<L.length:=by rw[<-HSL.o];exact hlt);(obtain⟨g6,rfl,_,_,hg6,hc6,hu6⟩:=(HL.o.below HBk.o (le_ _)).at k hlt hkL;have HU6:=H_ hu6;obtain⟨pa6,pc6,hs6⟩:=η hu6;rw[hs6]at hc6 HU6;clear hs6 hu6;go_wp2_with fail);(have⟨t,ht⟩:=ex_ (Τ L[k]))
     have HTR:=H_ (show Cl t0 t/\t.post=L[k] from by
      obtain⟨q,h1,h2⟩:=HAR.o.cl.mem _ (u_ hkL);rw[ht,<-h2,zee ((Cl.kept HT0.o).ok h1)];exact⟨h1,rfl⟩)
     (have HTS:=H_ (Cl.size HTR.o.1 hs0);have HTO:=H_ ((Cl.kept HT0.o).ok HTR.o.1);have HT:=H_ ht;clear ht;refine(zqh _ L[k] t wk (zd0 HU6.o.sl (by omega)) (by rw[<-HTR.o.2,t.post_length];have:=HTS.o;omega) (by rw[<-HTR.o.2];exact zem 0 t HTO.o [])).mono ?_;rintro e4 w4 ⟨p4,rfl,hb4,hrt4⟩;have hz4:=hb4.size;obtain⟨pp4,rfl⟩:=hrt4.isPtr;have HB4:=H_ hb4;have HRT:=H_ hrt4;have⟨w5,hw5⟩:=xa_ w4 #[(0:Int),(0:Int),(0:Int),(0:Int),(0:Int),(0:Int),(0:Int),(0:Int),(0:Int),(0:Int),(0:Int),(0:Int)] 3;have hz5:w5=w4.heap.size+1:=by rw[hw5];simp);(have HR5:Q_ (Blk w4 (.cells (δ (zas L t 0 0)).toArray 3 (0,0)) w5/\Below w4 w4 w5):=H_ ⟨by rw[ztz,hw5];exact κ w4 _,by rw[hw5];exact ζ _ _⟩;have⟨hz5a,hz5b⟩:w4+1<=w5.heap.size/\w5<=w4.heap.size+1:=by omega);(have hmk:=zzj w4;rw[<-hw5]at hmk;clear hb4 hrt4 hz5 hw5;go_wp2;go_loopw [32] (λi wx=>∃ α:Nat,α<=4/\i=.int .i64 α/\Q_ (Blk w4 (.cells (δ (zas L t (3*α) 0)).toArray 3 (0,0)) wx/\Below w4 w4 wx)) (λi _=>4-(intOf i).toNat));case atStart=>exact⟨0,by omega,rfl,HR5⟩
     case round=>
      rename World=>wx
      clear HR5 hmk;obtain⟨α,hα,rfl,HX⟩:=hrel;by_cases hlt2:α<4
      ·(have hd2:decide ((α:Int)<4)=true:=by simp;omega);go_wp2;go_loopw [10] (λi wy=>∃ j:Nat,j<=3/\i=.int .i64 (16+(j:Int))/\Q_ (Blk w4 (.cells (δ (zas L t (3*α+j) 0)).toArray 3 (0,0)) wy/\Below w4 w4 wy)) (λi _=>19-(intOf i).toNat)
       case atStart=>exact⟨0,by omega,rfl,HX⟩
       case round=>
        rename World=>wy
        clear HX;obtain⟨j,hj,rfl,HX⟩:=hrel;by_cases hlt3:j<3
        ·(have hd3:decide ((16:Int)+(j:Int)<=18)=true:=by simp;omega);(have⟨m,hm⟩:=ex_ (3*α+j);have hm12:m<12:=by omega);rw[<-hm]at HX;have HM:=H_ hm
         have HMP:=H_ (show moveP t m=partsV t α (16+(j:Int)) by
          subst hm;unfold moveP;rw[show (3*α+j)/3=α by omega,show (3*α+j)%3=j by omega])
         have HMD:Q_ (∀ x∈partsV t α (16+(j:Int)),x∈L/\x.length<=100000):=H_ λx hx=>by
          rw[<-HMP.o,HT.o]at hx;have hxL:=HAR.o.done _ (u_ hkL) m hm12 x hx;obtain⟨q,hq1,hq2⟩:=HAR.o.cl.mem _ hxL;refine⟨hxL,?_⟩;rw[<-hq2,q.post_length];have:=Cl.size hq1 hs0;omega
         (have hzy:=HX.o.2.size;clear hm;go_wp2_with fail);refine(zgk t _ _ wy α (16+(j:Int)) (zdz HRT.o HX.o.2) HTO.o (by have:=HTS.o;omega) hlt2 (by omega) (by omega) (λx hx=>(HMD.o x hx).2)).mono ?_;rintro e6 w6 ⟨v6,rfl,⟨sp,h6_⟩,hb6_⟩;have hz6:=hb6_.size;have hpn:=partsV_len HTO.o (α:=α) (c:=16+(j:Int)) (by omega);have hts:=HTS.o;have⟨ps,hps⟩:=ex_ (partsV t α (16+(j:Int)));rw[<-hps]at h6_ HMP hpn HMD;clear hps;have hsl6:=h6_.2.1;have hsl62:sp.length<=100000:=by omega
         (have HSL6:=H_ hsl6;obtain⟨pva,pvc,rfl⟩:=η h6_.1;have HZ:Q_ (Blk w4 (.cells (δ (zas L t m 0)).toArray 3 (0,0)) w6/\Below w4 w4 w6/\LLs wy w6 w6 (.slice pva sp pvc) sp ps):=H_ ⟨HX.o.1.below hb6_ HX.o.1.lt,HX.o.2.trans (hb6_.mono hzy),h6_⟩;have hgy:=HX.o.1.lt;clear h6_ hb6_ hsl6 hpn HX;go_wp2;go_loopw [44] (λi wz=>∃ n:Nat,n<=sp.length/\i=.int .i64 n/\Q_ (Blk w4 (.cells (δ (zas L t m n)).toArray 3 (0,0)) wz/\Below w4 w4 wz/\LLs wy w6 wz (.slice pva sp pvc) sp ps/\w6<=wz.heap.size)) (λi _=>sp.length-(intOf i).toNat));case atStart=>exact⟨0,by omega,rfl,H_ ⟨HZ.o.1,HZ.o.2.1,HZ.o.2.2,le_ _⟩⟩
         case round=>
          rename World=>wz
          clear HZ;obtain⟨n,hn,rfl,HZ⟩:=hrel;by_cases hlt4:n<sp.length
          ·(have hnp:n<ps.length:=by rw[<-HSL6.o];exact hlt4);(have hzz:=HZ.o.2.2.2;obtain⟨g7,rfl,_,_,hg7,hc7,hu7⟩:=HZ.o.2.2.1.at n hlt4 hnp;have HU7:=H_ hu7;obtain⟨pa7,pc7,hs7⟩:=η hu7;rw[hs7]at hc7 HU7;clear hs7 hu7;obtain⟨i,hi,hie⟩:=ax_ (HMD.o _ (u_ hnp)).1;have hi10:i<10:=by have:=HSL.o;omega);(have HLZ:=H_ (HL.o.below ((HBk.o.trans (HB4.o.mono (by omega))).trans (HZ.o.2.1.mono (by omega))) (le_ _));have HIX:=H_ ((show zd3 (eqL ps[n]) L=(i:Nat) by rw[<-hie];exact z2n HAR.o.cl.nodup hi));have HNX:=H_ (z2a HAR.o.cl.nodup (t:=t) (m:=m) (n:=n) hm12 (by rw[HMP.o];exact hnp) hi (by simp only[HMP.o];exact hie));have HCL:=H_ (z11 L t m n m);have HPG:=H_ (zgh L t m n m (by rw[zme];exact hm12));have⟨cv,hcv⟩:=ex_ (zeh L t m n m);rw[<-hcv]at HNX HCL HPG;clear hcv hie;have hcv:cv<1024:=T_ HCL.o (show 2 ^ L.length<=2 ^ 10 from ah_ (by omega) (by have:=HSL.o;omega)))
           have HMV:Q_ (Calls prog 181 #[.int .i64 α,.int .i64 (16+(j:Int))] wz.drew λe w'=>e=.returned (.int .i64 (m:Nat))/\wz.drew=w'):=H_ ((zsj α (16+(j:Int)) wz.drew hlt2 (by omega) (by omega)).mono (by
            rintro e w' ⟨rfl,h⟩;refine⟨?_,h⟩;have hm:=HM.o;rw[show 3*(α:Int)+(16+(j:Int))-16=(m:Nat) by omega]))
           have HPA:Q_ (Calls prog 210 #[.slice (q_ g6 0) sl lc,.slice pa7 ps[n].length pc7] wz.drew λe w'=>e=.returned (.int .i64 (i:Nat))/\Below wz wz w'):=H_ ((zoz _ _ _ _ _ _ L ps[n] wz.drew (HLZ.o.below (z_ (B_ wz wz)) (by have:=HLZ.o.1;omega)).sl (HU7.o.sl.below (z_ (B_ wz wz)) (by omega)) (by show _<=wz.heap.size;omega) (by show _<=wz.heap.size;omega) (by have:=HSL.o;omega)).mono (by
            rintro e w' ⟨rfl,h⟩;exact⟨by rw[HIX.o],(z_ (B_ _ _)).trans h⟩))
           have HCV:Q_ (∀ w':World,Blk w4 (.cells (δ (zas L t m n)).toArray 3 (0,0)) w'->w'.cell? (p_ w4 m)=some (.int .i64 (cv:Nat))):=H_ λw' h'=>by
            rw[h'.cell m];have h:=HPG.o;simp[δ,l_ (show m<(zas L t m n).length by rw[zme];exact hm12),h]
           (have x0:=HCV.o wz HZ.o.1;have x1:wz.drew.cell? (p_ w4 m)=some (.int .i64 (cv:Nat)):=x0;have⟨hmi,hmI⟩:(i:Int)<10/\(m:Int)<12:=by omega);go_wp2_with fail
           go_region_law (first
            | (go_simp;go_at_call 181;refine HMV.o.mono ?_;rintro e1 _ ⟨rfl,rfl⟩)
            | (go_simp;go_at_call 210;refine HPA.o.mono ?_;rintro e8 w8 ⟨rfl,hb8_⟩;(have hz8:=hb8_.size);(have k8:=HZ.o.1.below hb8_ HZ.o.1.lt);(have y0:=HCV.o w8 k8);(have y1:=k8.free m);(have HK8:=H_ (a_ k8 hb8_));clear k8 hb8_))
           all_goals (
            have HZ9:Q_ (Blk w4 (.cells (δ (zas L t m (n+1))).toArray 3 (0,0)) (w8.setCell (p_ w4 m) (.int .i64 (bits .or .i64 (cv:Int) (IntKind.i64.wrap (2 ^ i)))))/\Below w4 w4 (w8.setCell (p_ w4 m) (.int .i64 (bits .or .i64 (cv:Int) (IntKind.i64.wrap (2 ^ i)))))/\LLs wy w6 (w8.setCell (p_ w4 m) (.int .i64 (bits .or .i64 (cv:Int) (IntKind.i64.wrap (2 ^ i))))) (.slice (q_ g7 0) sp pvc) sp ps/\w6.heap.size<=(w8.setCell (p_ w4 m) (.int .i64 (bits .or .i64 (cv:Int) (IntKind.i64.wrap (2 ^ i))))).heap.size):=by
             rw[zya hcv (by omega)];have hO:=β.put w4 m w8 ((cv ||| 2 ^ i:Nat):Int);have h1:=HZ.o.2.2.1.below HK8.o.2 (by omega);have hs9:=hO.size;exact H_ ⟨z1c HK8.o.1 HNX.o,ε (HZ.o.2.1.trans (HK8.o.2.mono (by omega))) hO (le_ _) (by omega),h1.outside hO (.inr (by omega)),by omega⟩
            generalize w8.setCell (p_ w4.heap.size m) (.int .i64 (bits .or .i64 (cv:Int) (IntKind.i64.wrap (2 ^ i))))=w9 at HZ9 ⊢;clear x0 x1 y0 y1 HK8;go_wp2;go_roundw
            (case rel=>exact⟨n+1,by omega,by go_num,HZ9⟩);case measure=>simp[intOf];omega)
          ·(obtain rfl:n=sp.length:=by omega)
           have HF:Q_ (Blk w4 (.cells (δ (zas L t (3*α+(j+1)) 0)).toArray 3 (0,0)) wz/\Below w4 w4 wz):=H_ (by
            have h1:=HZ.o.1;rw[z2j L t m sp.length (by rw[HMP.o,HSL6.o];exact le_ _),show m+1=3*α+(j+1) by have:=HM.o;omega]at h1;exact⟨h1,HZ.o.2.1⟩)
           clear HZ HMP HMD HM;go_wp2;go_roundw
           (case rel=>exact⟨j+1,by omega,by go_num,HF⟩);case measure=>simp[intOf];omega
        ·(obtain rfl:j=3:=by omega);(have HF:Q_ (Blk w4 (.cells (δ (zas L t (3*(α+1)) 0)).toArray 3 (0,0)) wy/\Below w4 w4 wy):=HX;clear HX;go_wp2;go_roundw);(case rel=>exact⟨α+1,by omega,by go_num,HF⟩);case measure=>simp[intOf];omega
      ·(obtain rfl:α=4:=by omega);(have HBX:=H_ (HB4.o.trans (HX.o.2.mono (by omega)));have HIX:=H_ (HI.o.go HBX.o);have hgx:=HX.o.1.lt;have hsx:=HX.o.2.size)
       have HROW:Q_ (γ w3 wx 3 wx (.slice (q_ w4 0) 12 12) (nextL L L[k])):=H_ (by
        have h:=HX.o.1;rw[show 3*4=12 from rfl,HT.o,zwk]at h;have h2:=Own.of_blk (sz:=1) (n:=12) h (by simp[δ,nextL]) (by omega);exact(γ.len h2 (by simp[nextL])).lower (by omega) (by omega))
       have HRF:Q_ ((Value.slice (q_ w4 0) 12 12).ownBlock=none\/(Value.slice (q_ w4 0) 12 12).ownBlock≠va.ownBlock):=H_ (.inr λe=>by
        have:=HI.o.ends.2 w4 e.symm;omega)
       have HEN:Q_ (∀ w',Below wk wk w'->Calls prog 149 #[.slice pa6 L[k].length pc6] w' λe w''=>e=.returned (.int .i64 (endL L[k]))/\Below w'.heap.size w' w''):=H_ λw' hb'=>(zm9 _ _ _ t w' (by rw[HTR.o.2];exact HU6.o.sl.below hb' (by omega)) (by have:=hb'.size;omega) (by have:=HTS.o;omega) HTO.o).mono (by
        rintro e w'' ⟨rfl,h⟩;exact⟨by rw[endL,<-HT.o],h⟩)
       (have c0:=HIX.o.blk.cell 0;have c0':=HIX.o.blk.drew.cell 0;have⟨hkl,hk41⟩:k<=L.length/\k<=41:=by omega);(have hg3:w2+1<=w3.heap.size:=hz3a;have hzx:wx.drew.heap.size=wx.heap.size:=rfl;clear HX HI;go_upto_region 24 with fail)
       go_region_law (first
        | (go_simp;go_at_call 149;refine(HEN.o wx.drew (z_ HBX.o)).mono ?_;rintro e7 w7 ⟨rfl,hb7_⟩;(have hz7:=hb7_.size);(have hb7:Below wx wx w7:=(z_ (B_ _ _)).trans (hb7_.mono (le_ _)));(have HI7:=H_ (HIX.o.go hb7));(have HR7:=H_ ((HROW.o.below hb7 (le_ _)).lower (le_ _) hb7.size));(have c7:=HI7.o.blk.cell 0);(have c7':=(HI7.o.blk.al (x:=.cells #[.int .i64 (endL L[k])] 3)).cell 0);(have L7:Q_ (Sl 1 w7 (w7+1) (w7.alloc (.cells #[.int .i64 (endL L[k])] 3)) (.slice (q_ w7 0) 1 1) 1 [.int .i64 (endL L[k])]):=H_ (ς 1 3 w7 [.int .i64 (endL L[k])] 1 (by omega) rfl).sl);(have HE7:=H_ ((HI7.o.go (ζ w7 (.cells #[.int .i64 (endL L[k])] 3))).endsK hkl));clear hb7_ hb7)
        | (refine zig (by rfl) _ _ 22 (by rfl) 3 (0:Int) 1 8 underlying22 ω (by rfl) (by decide) (by decide) (by rfl) HE7.o (by rfl) L7.o (by intro u hu;simp only[k_] at hu;subst hu;rfl) (by omega) (by omega) (by simp only[μ];omega) ?_;intro v9 w9 ho9 hg9 hl9;obtain⟨y9,yc9,rfl⟩:=η ho9;(have k9:=HI7.o.blk9 hg3 hg9);(have c9:=k9.cell 0);(have f9:=k9.free 0);(have HH:=H_ (AUI.endsPut HI7.o hg3 hkl HR7.o HRF.o ho9 hg9 hl9));clear ho9 hg9 hl9 k9))
       all_goals (
        generalize w9.setCell (p_ w2.heap.size 0) (.slice y9 (k+1) yc9)=wa at HH ⊢;have hza:=HH.o.o.size;have c10:=HH.o.blk.cell 1;have hss:ss.length<=41:=by have:=HH.o.next.2.1;simp at this;omega
        clear c9 f9 L7 HE7 c7 c7' HI7 HR7;go_wp2_with (at_builtin;go_loud (refine zbn wa rfl _ _ 119 rfl 22 () 1 24 underlying119 zab rfl (by decide) (by decide) rfl HH.o.next.1 1 [.slice (q_ w4 0) 12 12] rfl rfl (by intro u hu;simp only[k_] at hu;subst hu;rfl) rfl ?c1 ?c2 ?_))
        case c1=>omega
        case c2=>exact hza
        intro v12 w12 ho12 hg12 hl12 _;obtain⟨y12,yc12,rfl⟩:=η ho12;have k12:=HH.o.blk9 hg3 hg12;have c12:=k12.cell 1;have f12:=k12.free 1;have HI13:=H_ (AUH.nextPut hkL HH.o hg3 ho12 hg12);clear ho12 hg12 hl12 k12;go_wp2;go_roundw
        (case rel=>exact⟨k+1,_,_,_,by omega,by go_num,HI13⟩);case measure=>simp[intOf];omega)
    ·(obtain rfl:k=sl.length:=by omega);(obtain⟨za,zc,rfl⟩:=η (HI.o.endsK (by rw[<-HSL.o];exact le_ _));obtain⟨zb,zbc,rfl⟩:=η HI.o.next.1;have KR:=H_ (K2.o.below HBk.o (by omega));obtain⟨c0,c1⟩:=HI.o.blk.c2;have⟨d0,d1⟩:=KR.o.c2;have⟨f0,f1⟩:=KR.o.f2;go_wp2;have⟨wz,hwz⟩:=x2_ wk w (.slice za sl zc) (.slice zb ss zbc);have KZ:=KR.o.au2 (.slice za sl zc) (.slice zb ss zbc);have HO:=β.set2' w wk (.slice za sl zc) (.slice zb ss zbc);rw[<-hwz]at KZ HO;simp only[<-hwz];obtain⟨q0,q1⟩:=KZ.c2;refine d_ (v:=.agg #[.slice za sl zc,.slice zb ss zbc]) (by simp[results,results180,go_sem,q0,q1]) rfl (ι.mk _ rfl ⟨?_,ε (HB2.o.trans (HBk.o.mono (by omega))) HO (le_ _) (by omega)⟩))
     have e1:autV t0.post=⟨L.map endL,L.map (nextL L)⟩:=by
      unfold autV;rw[HKV.o,<-HLE.o,dx_,x_];rw[t_,<-HSL.o];exact h10
     (have e2:L.take sl.length=L:=by rw[HSL.o,Y_]);have n1:=HI.o.ends;have n2:=HI.o.next;rw[e2]at n1 n2;rw[e1];exact⟨_,_,ss,rfl,(n1.outside HO (.inr (by omega))).lower (by omega) HO.size,(n2.outside HO (.inr (by omega))).lower (by omega) HO.size⟩
  ·have HE:=H_ (show autV t0.post=⟨[],[]⟩ by
    unfold autV;rw[HKV.o,<-HLE.o,dx_,m_];rw[t_,<-HSL.o];exact h10)
   have⟨c0,c1⟩:=K2.o.c2;have⟨f0,f1⟩:=K2.o.f2;go_wp2;have⟨wz,hwz⟩:=x2_ w2 w () ();have KZ:=K2.o.au2 () ();have HO:=β.set2' w w2 () ();rw[<-hwz]at KZ HO;simp only[<-hwz];obtain⟨q0,q1⟩:=KZ.c2;refine d_ (v:=.agg #[(),()]) (by simp[results,results180,go_sem,q0,q1]) rfl (ι.mk _ rfl ⟨?_,ε HB2.o HO (le_ _) HB2.o.size⟩);rw[HE.o];exact AuW.nils _ _ _
section
open Go.Maps (Keyed)
set_option maxRecDepth 100000
abbrev kvP(p:Nat × Nat):Value:=.agg #[.int .i64 (p.1:Nat),.int .i64 (p.2:Nat)]
def klP(p:Nat × Nat):Lit:=.string (keyBytes [.int .i64 (p.1:Nat),.int .i64 (p.2:Nat)])
abbrev zdu(p:Nat × Nat):Prop:=p.1<1048576/\p.2<1048576
theorem zza:(match Tryz.prog.underlying 151 with | some (.array _ _) | some (.struct _)=>true | _=>false)=true:=by kernel_rfl
theorem zn1:(151:TypeId)<Tryz.prog.types.size:=av_ (by kernel_rfl)
theorem zql:Tryz.prog.cellsOf 151=2:=by kernel_rfl
theorem zzf:Tryz.prog.cellsOf 3=1:=by kernel_rfl
theorem zyw:Tryz.prog.keyTypeAt 3 151=true:=by kernel_rfl
theorem z0g:Tryz.prog.keyType 151=true:=by kernel_rfl
theorem zgc:Keyed prog 151:=Keyed.of_law (deep_law_laid zl0 (m:=3) (by omega) zn1 zyw zza)
theorem zpi(h:n<1048576):(Lit.int .i64 (n:Nat)).wf=true:=dg_ (by omega)
theorem zh5(h:zdu p):keyOf prog 151 (kvP p)=some (klP p):=by
 have h1:=zpi h.1;have h2:=zpi h.2;obtain⟨m,hm⟩:∃ m,Tryz.prog.types.size=m+2:=⟨Tryz.prog.types.size-2,by have h:(151:Nat)<Tryz.prog.types.size:=zn1;omega⟩;unfold keyOf;simp only[underlying151];rw[x_ (by rw[z0g];simp[Value.formed,underlying151,zql]),hm];simp[Program.keyLits,underlying151,underlying3,zzf,zql,Value.cells,h1,h2,klP]
theorem z08(h:kvP p=kvP q):p=q:=by
 simp only[kvP,Value.agg.injEq]at h;have:=congrArg Array.toList h;simp at this;exact Prod.ext (by omega) (by omega)
theorem zpq(hp:zdu p)(hq:zdu q)(h:klP p=klP q):p=q:=z08 (zgc.inj (zh5 hp) (by rw[h];exact zh5 hq))
theorem zxd(h:zdu p):WideAt.IsKeyLit (klP p):=zgc.key (zh5 h)
noncomputable abbrev RdB:Value->Option (DataW Unit × List MemPlace):=plainElem prog 4
theorem zqc {z:DataW Unit × List MemPlace}(h:RdB v=some z):∃ b,v=.bool b/\z=(.lit (.bool b),[]):=by
 unfold RdB plainElem at h;rw[underlying4]at h;cases v<;>simp at h
 subst h;exact⟨_,rfl,rfl⟩
theorem zeroB(w:World):(zeroValue 4).run prog w=.ok (.bool false) w:=by kernel_rfl
def PM(w:World)(b:Nat)(ps:List (Nat × Nat)):Prop:=∃ D:DataW Unit,w.ownsMap prog 151 RdB b ps.length D/\(∀ p∈ps,zdu p)/\(∀ p,zdu p->D.atKey (klP p) (.lit (.bool false))=.lit (.bool (decide (p∈ps))))/\∀ kl,Maps.has D kl=true->∃ p∈ps,kl=klP p
theorem PM.lt {b:Nat} {ps:List (Nat × Nat)}(h:PM w b ps):b<w:=by obtain⟨D,h1,_⟩:=h;exact h1.lt
theorem PM.blk {b:Nat} {ps:List (Nat × Nat)}(h:PM w b ps)(e:w'.heap[b]?=w.heap[b]?):PM w' b ps:=by
 obtain⟨D,⟨es,c,hb,r⟩,h2⟩:=h;exact⟨D,⟨es,c,e.trans hb,r⟩,h2⟩
theorem PM.below {b:Nat} {ps:List (Nat × Nat)}(h:PM w b ps)(hb:Below B w w')(hB:b<B):PM w' b ps:=h.blk (hb.block b hB)
theorem PM.outside {b:Nat} {ps:List (Nat × Nat)}(h:PM w b ps)(ho:β lo hi w w')(hd:b<lo\/hi<=b):PM w' b ps:=h.blk (ho.block b h.lt (by omega))
theorem PM.made(w:World):PM (w.alloc (.map #[] 0)) w []:=⟨.map [],World.ownsMap_made _ _ _ _,by simp,λp _=>by simp[DataW.atKey],λkl h=>by simp[Maps.has] at h⟩
theorem PM.look {b:Nat} {ps:List (Nat × Nat)}(h:PM w b ps){p:Nat × Nat}(hp:zdu p):(Instr.lookup 191 (.map (some b)) (kvP p) false).run prog w=.ok (.bool (decide (p∈ps))) w:=by
 obtain⟨D,h1,_,h3,_⟩:=h;obtain⟨v,q,hrun,hv⟩:=h1.lookup zgc underlying191 (zeroB w) (plainElem_bool underlying4 false) (zh5 hp);obtain⟨x,rfl,e⟩:=zqc hv;rw[h3 p hp]at e;simp only[bf_,DataW.lit.injEq,Lit.bool.injEq]at e;rw[hrun,e.1]
theorem PM.put {b:Nat} {ps:List (Nat × Nat)}(h:PM w b ps){p:Nat × Nat}(hp:zdu p)(hn:ps.length<=100000000):
  ∃ w',(Instr.mapUpdate 191 (.map (some b)) (kvP p) (.bool true)).run prog w=.ok () w'/\PM w' b (ps++[p])/\w.grownBy w' (some b):=by
 obtain⟨D,h1,h2,h3,h4⟩:=h;obtain⟨w',r1,r2,r3⟩:=h1.update zgc underlying191 (by unfold maxLen;omega) (zh5 hp) (plainElem_bool underlying4 true);refine⟨w',r1,⟨_,by simpa using r2,λq hq=>?_,λq hq=>?_,λkl hk=>?_⟩,r3⟩
 ·rcases E_.1 hq with hq|hq
  ·exact h2 q hq
  ·simp only[k_]at hq;subst hq;exact hp
 ·by_cases e:q=p
  ·subst e
   rw[Maps.atKey_put_same h1.isMap (zxd hp)];simp
  ·rw[Maps.atKey_put_other (λx=>e (zpq hq hp x)),h3 q hq]
   simp[e]
 ·by_cases e:kl=klP p
  ·exact⟨p,by simp,e⟩
  ·rw[Maps.has_put_other e]at hk
   obtain⟨q,hq,e2⟩:=h4 kl hk;exact⟨q,by simp[hq],e2⟩
theorem PM.grown {b:Nat}(h:w.grownBy w' (some b)):β b (b+1) w w':=zb1 h λg hg=>by injection hg with hg;subst hg;exact⟨le_ _,D_ _⟩
def zet:=@PM.grown
end
section
open Go.Maps (Keyed)
def RP(w:World)(b r:Nat)(qs:List (Nat × Nat))(G:Nat × Nat->Prop)(cnt:Nat):Prop:=PM w b qs/\∃ (n:Nat) (D:DataW Unit) (left:Lit->Bool),w.ranges prog 151 RdB b r n D left cnt/\(∀ kl,left kl=true->∃ p∈qs,kl=klP p)/\∀ p∈qs,left (klP p)=true\/G p
theorem RP.blk {b:Nat} {qs:List (Nat × Nat)} {G:Nat × Nat->Prop}(h:RP w b r qs G cnt)(e1:w'.heap[b]?=w.heap[b]?)(e2:w'.heap[r]?=w.heap[r]?):RP w' b r qs G cnt:=by
 obtain⟨hp,n,D,left,⟨es,clock,since,seen,c0,h1,h2,h3,h4,h5,rest⟩,hl⟩:=h;exact⟨hp.blk e1,n,D,left,⟨es,clock,since,seen,c0,e1.trans h1,h2,h3,h4,e2.trans h5,rest⟩,hl⟩
theorem RP.lt {b:Nat} {qs:List (Nat × Nat)} {G:Nat × Nat->Prop}(h:RP w b r qs G cnt):r<w:=by
 obtain⟨hp,n,D,left,h,_⟩:=h;exact h.lt
theorem RP.below {b:Nat} {qs:List (Nat × Nat)} {G:Nat × Nat->Prop}(h:RP w b r qs G cnt)(hb:Below w w w'):RP w' b r qs G cnt:=h.blk (hb.block b h.1.lt) (hb.block r h.lt)
theorem RP.weak {b:Nat} {qs:List (Nat × Nat)} {G G':Nat × Nat->Prop}(h:RP w b r qs G cnt)(hg:∀ p,G p->G' p):RP w b r qs G' cnt:=by
 obtain⟨hp,n,D,left,h1,h2,h3⟩:=h;exact⟨hp,n,D,left,h1,h2,λp hp=>(h3 p hp).imp id (hg p)⟩
theorem RP.left {b:Nat} {qs:List (Nat × Nat)} {G:Nat × Nat->Prop}(h:RP w b r qs G cnt):w.rangeLeft b r=cnt:=by
 obtain⟨hp,n,D,left,h,_⟩:=h;exact h.left_eq
section
variable (w:World) {ops:Array Oper} {rest:List Oper} {o:Oper} {a:Act} {Q:Exit->Act->World->Prop}
theorem zwg(hg:o.guard=none)(m:Operand)(hop:o.op=Op.range 191 m)(b:Nat)(qs:List (Nat × Nat))(hm:a.eval m=.map (some b))(h:PM w b qs)
  (G:Nat × Nat->Prop) (hK:∀ w' cnt,RP w' b w qs G cnt->w.grownBy w' none->w'.heap.size=w.heap.size+1->wpList prog ops Q rest (a.put o.dst (.pointer (q_ w 0))) w'):wpList prog ops Q (o :: rest) a w:=by
 have hp:=h;obtain⟨D,h1,h2,h3,h4⟩:=h;refine wpList_range_own w hg m 191 hop 151 4 zgc underlying191 RdB b qs.length D hm h1 λw' r1 r2 r3=>hK w' _ ⟨?_,_,D,_,r1,λkl hk=>h4 kl hk,λp hp=>.inl ?_⟩ r2 r3
 ·exact hp.blk (r2.block b h1.lt (by simp))
 ·cases hh:Maps.has D (klP p)
  ·have e:=(Maps.atKey_of_not_has hh (.lit (.bool false))).symm.trans (h3 p (h2 p hp))
   simp[hp]at e
  ·rfl
theorem z1q(hg:o.guard=none)(it:Operand)(hop:o.op=Op.next it false)(b r cnt:Nat)(qs:List (Nat × Nat))(G:Nat × Nat->Prop)(hit:a.eval it=.pointer (q_ r 0))(h:RP w b r qs G cnt)
  (hDone:(∀ p∈qs,G p)->wpList prog ops Q rest (a.put o.dst (.tuple #[.bool false])) w)
  (hMore:∀ (x y:Nat) (c:Value) (w':World) (cnt':Nat),(x,y)∈qs->x<1048576->y<1048576->RP w' b r qs (λp=>G p\/p=(x,y)) cnt'->cnt' < cnt->β r (r+1) w w'->w'=w.heap.size ->
   (Instr.entry (.pointer (q_ r 0))).run prog w'=.ok (.tuple #[.agg #[.int .i64 (x:Nat),.int .i64 (y:Nat)],c]) w'->wpList prog ops Q rest (a.put o.dst (.tuple #[.bool true,.agg #[.int .i64 (x:Nat),.int .i64 (y:Nat)],c])) w'):wpList prog ops Q (o :: rest) a w:=by
 refine wpList_plain hg λK' hK'=>?_
 obtain⟨hp,n,D,left,hr,hl,hG⟩:=h;unfold Oper.wp;rcases hr.next zgc o.type with⟨h0,h0l,hrun⟩|⟨key,v,kl,y,w',cnt',hkey,hlk,hv,hat,hrun,hrg,hlt,hgr,hsz,hen⟩
 ·simp[execOp,hop,hit,hrun,Result.andThen]
  exact hK' _ _ (hDone λp hp=>(hG p hp).resolve_left (by rw[h0l];simp))
 ·obtain⟨p,hpq,rfl⟩:=hl kl hlk
  obtain⟨D',_,hf,_⟩:=id hp;have hfp:=hf p hpq;obtain rfl:=zgc.inj hkey (zh5 hfp);obtain⟨c,rfl,_⟩:=zqc hv;have hne:=hr.ne;simp[execOp,hop,hit,hrun,Result.andThen];refine hK' _ _ (hMore p.1 p.2 (.bool c) w' cnt' hpq hfp.1 hfp.2 ⟨hp.blk (hgr.block b hp.lt (by simp;exact λe=>hne e.symm)),n,D,_,hrg,λkl hk=>hl kl ?_,λq hq=>?_⟩ hlt (zet hgr) hsz hen)
  ·simp at hk
   exact hk.1
  ·rcases hG q hq with h|h
   ·by_cases e:q=p
    ·exact .inr (.inr e)
    ·left
     simp[h,Maps.sameKey_ne λx=>e (zpq (hf q hq) hfp x)]
   ·exact .inr (.inl h)
end
end
def zeo(x:Nat × Nat):List Value:=[.int .i64 (x.1:Nat),.int .i64 (x.2:Nat)]
def prs(l:List (Nat × Nat)):List Value:=l.flatMap zeo
theorem z2e(l:List (Nat × Nat)):(prs l).length=l.length*2:=by
 induction l with
 | nil=>rfl
 | cons m r ih=>simp only[prs,da_,n_] at *;rw[ih];simp[zeo];omega
theorem ztg(l m:List (Nat × Nat)):prs (l++m)=prs l++prs m:=by simp[prs]
theorem z03(l:List (Nat × Nat)):∀ (i:Nat) (h:i<l.length),(prs l)[i*2]?=some (.int .i64 (l[i].1:Nat))/\(prs l)[i*2+1]?=some (.int .i64 (l[i].2:Nat)):=by
 induction l with
 | nil=>intro i h;simp at h
 | cons m r ih=>
  intro i h;cases i with
  | zero=>simp[prs,zeo]
  | succ i=>
   have hi:i<r.length:=by simpa using h
   obtain⟨h1,h2⟩:=ih i hi
   have e:∀ j,(prs (m :: r))[(i+1)*2+j]?=(prs r)[i*2+j]?:=by
    intro j;have:(prs (m :: r))=zeo m++prs r:=by simp[prs]
    rw[this,a2_ (by simp[zeo];omega)]
    congr 1
    simp[zeo];omega
   refine⟨?_,?_⟩
   ·rw[show (i+1)*2=(i+1)*2+0 by omega,e 0];simpa using h1
   ·rw[e 1];simpa using h2
def zdw(lo hi:Nat)(w:World)(v:Value)(l:List (Nat × Nat)):Prop:=Own 2 lo hi 151 w v l.length (prs l)
theorem zdw.below {xs:List (Nat × Nat)}(h:zdw lo hi w v xs)(hb:Below B w w')(hB:hi<=B):zdw lo hi w' v xs:=zfw h hb hB
theorem zdw.outside {xs:List (Nat × Nat)}(h:zdw lo hi w v xs)(hb:β lo' hi' w w')(hd:hi<=lo'\/hi'<=lo):zdw lo hi w' v xs:=zk3 h hb hd
theorem zdw.lower {xs:List (Nat × Nat)}(h:zdw lo hi w v xs)(h1:lo'<=lo)(h2:hi<=hi'):zdw lo' hi' w v xs:=za3 h h1 h2
theorem zdw.get {a:Option Addr} {l:List (Nat × Nat)}(h:zdw lo hi w (.slice a n cap) l)(i:Nat)(hi':i<l.length):
  ∃ g,a=some ⟨g,0,none⟩/\lo<=g/\g<hi/\g<w.heap.size/\w.cell? (p_ g (i*2))=some (.int .i64 (l[i].1:Nat))/\w.cell? (p_ g (i*2+1))=some (.int .i64 (l[i].2:Nat)):=by
 rcases h.1.2 with⟨e,h0⟩|⟨g,cap',cur,e,hb,hg,rest⟩
 ·have:=h.1.1
  have:=z2e l;simp[h0]at this;omega
 ·injection e with e1 e2 e3
  subst e1;have hl:=h.lt g rfl;obtain⟨g1,g2⟩:=z03 l i hi';have k1:=h.1.cells (g:=g) rfl _ _ g1;have k2:=h.1.cells (g:=g) rfl _ _ g2;rw[a5_,U_]at k1 k2;exact⟨g,rfl,hl.1,hl.2,(L_.1 hg).1,k1,k2⟩
def zc6(x:(Nat × Nat) × Value):List Value:=[.int .i64 (x.1.1:Nat),.int .i64 (x.1.2:Nat),x.2]
def wys(l:List ((Nat × Nat) × Value)):List Value:=l.flatMap zc6
theorem zx8(l:List ((Nat × Nat) × Value)):(wys l).length=l.length*3:=by
 induction l with
 | nil=>rfl
 | cons m r ih=>simp only[wys,da_,n_] at *;rw[ih];simp[zc6];omega
theorem z2f(l m:List ((Nat × Nat) × Value)):wys (l++m)=wys l++wys m:=by simp[wys]
theorem zun(l:List ((Nat × Nat) × Value)):∀ (i:Nat) (h:i<l.length),(wys l)[i*3]?=some (.int .i64 (l[i].1.1:Nat))/\(wys l)[i*3+1]?=some (.int .i64 (l[i].1.2:Nat))/\(wys l)[i*3+2]?=some l[i].2:=by
 induction l with
 | nil=>intro i h;simp at h
 | cons m r ih=>
  intro i h;cases i with
  | zero=>simp[wys,zc6]
  | succ i=>
   have hi:i<r.length:=by simpa using h
   obtain⟨h1,h2,h3⟩:=ih i hi
   have e:∀ j,(wys (m :: r))[(i+1)*3+j]?=(wys r)[i*3+j]?:=by
    intro j;have:(wys (m :: r))=zc6 m++wys r:=by simp[wys]
    rw[this,a2_ (by simp[zc6];omega)]
    congr 1
    simp[zc6];omega
   refine⟨?_,?_,?_⟩
   ·rw[show (i+1)*3=(i+1)*3+0 by omega,e 0];simpa using h1
   ·rw[e 1];simpa using h2
   ·rw[e 2];simpa using h3
structure WyL(lo hi:Nat)(w:World)(v:Value)(n:Nat)(ws:List ((Nat × Nat) × Value))(l:List ((Nat × Nat) × List Int)):Prop where
 own:Own 3 lo hi 193 w v ws.length (wys ws)
 len:ws.length=l.length
 tr:∀ i (h1:i<ws.length) (h2:i<l.length),ws[i].1=l[i].1/\γ lo hi 3 w ws[i].2 l[i].2/\l[i].2.length<=n
theorem WyL.below {ws:List ((Nat × Nat) × Value)} {l:List ((Nat × Nat) × List Int)}(h:WyL lo hi w v n ws l)(hb:Below B w w')(hB:hi<=B):WyL lo hi w' v n ws l:=
 ⟨h.own.below hb hB,h.len,λi h1 h2=>by obtain⟨k0,k1,k2⟩:=h.tr i h1 h2;exact⟨k0,k1.below hb hB,k2⟩⟩
theorem WyL.outside {ws:List ((Nat × Nat) × Value)} {l:List ((Nat × Nat) × List Int)}(h:WyL lo hi w v n ws l)(hb:β lo' hi' w w')(hd:hi<=lo'\/hi'<=lo):WyL lo hi w' v n ws l:=
 ⟨h.own.outside hb hd,h.len,λi h1 h2=>by obtain⟨k0,k1,k2⟩:=h.tr i h1 h2;exact⟨k0,k1.outside hb hd,k2⟩⟩
theorem WyL.lower {ws:List ((Nat × Nat) × Value)} {l:List ((Nat × Nat) × List Int)}(h:WyL lo hi w v n ws l)(h1:lo'<=lo)(h2:hi<=hi')(hn:n<=n'):WyL lo' hi' w v n' ws l:=
 ⟨h.own.wide2 h1 h2,h.len,λi j1 j2=>by obtain⟨k0,k1,k2⟩:=h.tr i j1 j2;exact⟨k0,k1.lower h1 h2,J_ k2 hn⟩⟩
theorem WyL.nil(lo hi:Nat)(w:World)(n:Nat):WyL lo hi w () n [] []:=⟨Ω _ _ _ _ _,rfl,λi h=>by simp at h⟩
theorem WyL.get {a:Option Addr} {l:List ((Nat × Nat) × Value)} {tl:List ((Nat × Nat) × List Int)}(h:WyL lo hi w (.slice a m cap) n l tl)(i:Nat)(hi':i<l.length):
  ∃ g,a=some ⟨g,0,none⟩/\lo<=g/\g<hi/\g<w.heap.size/\w.cell? (p_ g (i*3))=some (.int .i64 (l[i].1.1:Nat))/\w.cell? (p_ g (i*3+1))=some (.int .i64 (l[i].1.2:Nat))/\w.cell? (p_ g (i*3+2))=some l[i].2:=by
 rcases h.own.1.2 with⟨e,h0⟩|⟨g,cap',cur,e,hb,hg,rest⟩
 ·have:=zx8 l
  rw[h0]at this;simp at this;omega
 ·injection e with e1 e2 e3
  subst e1;have hl:=h.own.lt g rfl;obtain⟨g1,g2,g3⟩:=zun l i hi';have k1:=h.own.1.cells (g:=g) rfl _ _ g1;have k2:=h.own.1.cells (g:=g) rfl _ _ g2;have k3:=h.own.1.cells (g:=g) rfl _ _ g3;rw[a5_,U_]at k1 k2 k3;exact⟨g,rfl,hl.1,hl.2,(L_.1 hg).1,k1,k2,k3⟩
theorem γ.typedW {u:Value} {ys:List Int}(hO:Own 3 lo' hi' 193 w v n xs)(hg:w.grownBy w' v.ownBlock)(hu:γ lo hi 3 w u ys):γ lo hi 3 w' u ys:=by
 refine⟨hu.1.kept hg ?_,hu.2⟩;cases hub:u.ownBlock with
 | none=>exact .inl rfl
 | some k=>
  right
  intro e;rcases hu.1.2 with⟨rfl,_⟩|⟨g',cap',cur',rfl,_,hg',_⟩
  ·cases hub
  ·rcases hO.1.2 with⟨rfl,_⟩|⟨gO,capO,curO,rfl,_,hgO,_⟩
   ·cases e
   ·simp only[Value.ownBlock,ar_]at hub e
    rw[hub,e]at hg';rw[hg']at hgO;injection hgO with hgO;injection hgO with _ h2 _;exact absurd h2 (by decide)
theorem WyL.push {ws:List ((Nat × Nat) × Value)} {l:List ((Nat × Nat) × List Int)}(h:WyL lo hi w v n ws l)(hs:γ lo hi 3 w s t)(ht:t.length<=n)
  (ho:Own 3 lo w' 193 w' v' (ws.length+1) (wys ws++zc6 (p,s))) (hg:w.grownBy w' v.ownBlock) (hh:hi<=w'):WyL lo w' w' v' n (ws++[(p,s)]) (l++[(p,t)]):=by
 have hl:=h.len;refine⟨by rw[n_,z2f];simpa [wys] using ho,by simp[hl],λi h1 h2=>?_⟩;by_cases hi':i<ws.length
 ·have hi2:i<l.length:=by omega
  rw[aq_ hi',aq_ hi2];obtain⟨k0,k1,k2⟩:=h.tr i hi' hi2;exact⟨k0,(γ.typedW h.own hg k1).lower (le_ _) hh,k2⟩
 ·have e:i=ws.length:=by simp at h1;omega
  subst e;rw[a9_ (le_ _),a9_ (by omega)];simp only[be_,bh_];have e2:∀ j (hj:j < [(p,t)].length),j=0->[(p,t)][j]=(p,t):=by intro j hj e;subst e;rfl
  rw[e2 _ _ (by omega)];exact⟨rfl,(γ.typedW h.own hg hs).lower (le_ _) hh,ht⟩
def AuS(lo hi:Nat)(w:World)(v:Value)(a:Au):Prop:=∃ va vb,v=.agg #[va,vb]/\SlI lo hi w va a.ends/\zbi lo hi w vb a.next
theorem AuS.below {a:Au}(h:AuS lo hi w v a)(hb:Below B w w')(hB:hi<=B):AuS lo hi w' v a:=by
 obtain⟨va,vb,rfl,h1,h2⟩:=h;exact⟨va,vb,rfl,h1.below hb hB,h2.below hb hB⟩
def zhp:=@AuS.below
theorem AuS.outside {a:Au}(h:AuS lo hi w v a)(ho:β lo' hi' w w')(hd:hi<=lo'\/hi'<=lo):AuS lo hi w' v a:=by
 obtain⟨va,vb,rfl,h1,h2⟩:=h;exact⟨va,vb,rfl,h1.outside ho hd,h2.outside ho hd⟩
theorem AuS.wide {a:Au}(h:AuS lo hi w v a)(h1:lo'<=lo)(h2:hi<=hi'):AuS lo' hi' w v a:=by
 obtain⟨va,vb,rfl,k1,k2⟩:=h;exact⟨va,vb,rfl,k1.wide h1 h2,k2.wide h1 h2⟩
def zh4:=@AuS.wide
structure zb4(a:Au):Prop where
 le:a.ends.length<=10
 len:a.next.length=a.ends.length
 rows:∀ r∈a.next,r.length=12/\∀ x∈r,0<=x/\x.toNat<2 ^ 10
 ends:∀ x∈a.ends,0<=x/\x.toNat<2 ^ 4
 top:∀ set m,m<12->stepU a set m<2 ^ a.ends.length
theorem zi9(e:List Int)(set m:Nat)(hm:m<12):stepU (autV e) set m<2 ^ (autV e).ends.length:=by
 by_cases hne:(autV e).ends=[]
 ·simp[stepU,hne,imgT]
 ·obtain⟨t,_,_,_,_,hr⟩:=autV_open hne
  rw[hr.ends_len];exact hr.step_lt set hm
theorem zbo(e:List Int):zb4 (autV e):=by
 obtain⟨h1,h2,h3,h4⟩:=autV_small e;exact⟨h1,h2,h3,h4,zi9 e⟩
theorem zb4.step {a:Au}(h:zb4 a)(set:Nat){m:Nat}(hm:m<12):stepU a set m<1024:=stepU_small h.rows set hm
theorem zb4.endsLt {a:Au}(h:zb4 a)(set:Nat):endsU a set<16:=endsU_small h.ends set
theorem zpc(lo hi:Nat)(v:Value)(a:Au)(set m:Nat)(w:World)(h:AuS lo hi w v a)(hh:hi<=w)(ho:zb4 a)(hs:set<1048576)(hm:m<12):
  c_ 182 #[v,.int .i64 (set:Nat),.int .i64 (m:Nat)] w ((stepU a set m:Nat):Int):=by
 obtain⟨va,vb,rfl,hE,hN⟩:=h;have⟨w0,hw0⟩:=xa_ w #[va,vb] 123;have HB:Q_ (Below w w w0):=by rw[hw0];exact H_ (ζ _ _)
 have K1:Blk w (.cells #[va,vb] 123) w0:=by rw[hw0];exact κ w _
 obtain⟨c0,c1⟩:=K1.c2;have HE:=H_ (hE.below HB.o hh);have HN:=H_ (hN.below HB.o hh);obtain⟨ea,ec,rfl,_,_⟩:=π hE;obtain⟨na,nc,hvb,_,_⟩:=hN.shape;have HO:=H_ ho;have h10:=ho.le;have hln:=ho.len;rw[hln]at hvb;subst hvb;have⟨R,hR⟩:=ex_ (a.next.map λr:List Int=>r.getD m 0);have HRS:=H_ (show stepU a set m=imgT R set a.ends.length by rw[hR];rfl)
 have HRL:Q_ (∀ k,imgT R set k<1024):=H_ λk=>imgT_lt (n:=10) (λs hs=>by
  subst hR;simp only[X_]at hs;obtain⟨h1,h2⟩:=ho.rows _ (u_ hs);simp only[bq_,List.getD];rw[l_ (by omega)];exact(h2 _ (u_ _)).2) set k
 have HRG:Q_ (∀ k (h:k<a.next.length),∃ hm':m<a.next[k].length,∃ x:Nat,a.next[k][m]=(x:Int)/\x<1024/\(R.getD k 0).toNat=x):=H_ λk hk=>by
  obtain⟨h1,h2⟩:=ho.rows _ (u_ hk);have hm':m<a.next[k].length:=by omega
  obtain⟨h3,h4⟩:=h2 _ (u_ hm');refine⟨hm',a.next[k][m].toNat,by omega,h4,?_⟩;subst hR;simp[List.getD,l_ hk,l_ hm']
 have⟨n,hn⟩:=ex_ a.ends.length;have HNL:=H_ (show a.next.length=n by rw[hn,hln]);rw[<-hn]at c0 c1 hw0 HRS h10 ⊢;clear hE hN ho K1 hR hln hn
 go_enter func182,ntmps182
 go_wp2_with fail
 simp only[<-hw0];clear hw0
 go_loop [7,12] (λo i=>∃ k:Nat,k<=n/\i=.int .i64 k/\o=.int .i64 ((imgT R set k:Nat):Int)) (λ_ i=>n-(intOf i).toNat)
 case atStart=>exact⟨0,by omega,rfl,rfl⟩
 case round=>
  obtain⟨k,hk,rfl,rfl⟩:=hrel;by_cases hlt:k<n
  ·have hkn:k<a.next.length:=by rw[HNL.o];exact hlt
   obtain⟨b,off,u,rfl,_,_,_,hcell,hu⟩:=HN.o.get k hkn;obtain⟨hm',x,hx,hx2,hg⟩:=HRG.o k hkn;obtain⟨ua,uc,rfl,_,_⟩:=π hu;obtain⟨b2,off2,rfl,_,_,_,hcell2⟩:=zc8 hu m hm';rw[hx]at hcell2;have hlr:a.next[k].length=12:=(HO.o.rows _ (u_ hkn)).1;rw[hlr]at hcell;cases hb:set.testBit k
   ·(have hbb:=(zlb (k:=k) (show set<4611686018427387904 by omega)).trans hb);(have HNN:Q_ (imgT R set (k+1)=imgT R set k):=H_ (by rw[imgT,hb];simp);clear hb hx hg hu hlr;go_wp2;go_round);(case rel=>exact⟨k+1,by omega,by go_num,by rw[HNN.o]⟩);case measure=>simp[intOf];omega
   ·(have hbb:=(zlb (k:=k) (show set<4611686018427387904 by omega)).trans hb);(have HNN:Q_ (imgT R set (k+1)=imgT R set k ||| x):=H_ (by rw[imgT,hb,hg];simp);have HOr:=H_ (zko (imgT R set k) x (by have:=HRL.o k;omega) (by omega));clear hb hx hg hu hlr;go_wp2;go_round);(case rel=>exact⟨k+1,by omega,by go_num,by rw[HNN.o,HOr.o]⟩);case measure=>simp[intOf];omega
  ·obtain rfl:k=n:=by omega
   go_wp2;go_ret;exact⟨by rw[HRS.o];rfl,HB.o⟩
theorem zog(lo hi:Nat)(v:Value)(a:Au)(set:Nat)(w:World)(h:AuS lo hi w v a)(hh:hi<=w)(ho:zb4 a)(hs:set<1048576):
  c_ 183 #[v,.int .i64 (set:Nat)] w ((endsU a set:Nat):Int):=by
 obtain⟨va,vb,rfl,hE,hN⟩:=h;have⟨w0,hw0⟩:=xa_ w #[va,vb] 123;have HB:Q_ (Below w w w0):=by rw[hw0];exact H_ (ζ _ _)
 have K1:Blk w (.cells #[va,vb] 123) w0:=by rw[hw0];exact κ w _
 have c0:=K1.cell 0;have HE:=H_ (hE.below HB.o hh);obtain⟨ea,ec,rfl,_,_⟩:=π hE;have h10:=ho.le;have⟨R,hR⟩:=ex_ a.ends;have HRS:=H_ (show endsU a set=imgT R set a.ends.length by rw[hR];rfl);have HRL:Q_ (∀ k,imgT R set k<16):=H_ λk=>imgT_lt (n:=4) (λs hs=>by subst hR;exact(ho.ends _ (u_ hs)).2) set k
 have HRG:Q_ (∀ k (h:k<R.length),∃ x:Nat,R[k]=(x:Int)/\x<16/\(R.getD k 0).toNat=x):=H_ λk hk=>by
  subst hR;obtain⟨h3,h4⟩:=ho.ends _ (u_ hk);exact⟨a.ends[k].toNat,by omega,h4,by simp[List.getD,l_ hk]⟩
 rw[<-hR]at HE c0 hw0 HRS h10 ⊢;clear hE hN ho K1 hR
 go_enter func183,ntmps183
 go_wp2_with fail
 simp only[<-hw0];clear hw0
 go_loop [5,11] (λo i=>∃ k:Nat,k<=R.length/\i=.int .i64 k/\o=.int .i64 ((imgT R set k:Nat):Int)) (λ_ i=>R.length-(intOf i).toNat)
 case atStart=>exact⟨0,by omega,rfl,rfl⟩
 case round=>
  obtain⟨k,hk,rfl,rfl⟩:=hrel;by_cases hlt:k<R.length
  ·obtain⟨x,hx,hx2,hg⟩:=HRG.o k hlt
   obtain⟨b2,off2,rfl,_,_,_,hcell2⟩:=zc8 HE.o k hlt;rw[hx]at hcell2;cases hb:set.testBit k
   ·(have hbb:=(zlb (k:=k) (show set<4611686018427387904 by omega)).trans hb);(have HNN:Q_ (imgT R set (k+1)=imgT R set k):=H_ (by rw[imgT,hb];simp);clear hb hx hg;go_wp2;go_round);(case rel=>exact⟨k+1,by omega,by go_num,by rw[HNN.o]⟩);case measure=>simp[intOf];omega
   ·(have hbb:=(zlb (k:=k) (show set<4611686018427387904 by omega)).trans hb);(have HNN:Q_ (imgT R set (k+1)=imgT R set k ||| x):=H_ (by rw[imgT,hb,hg];simp);have HOr:=H_ (zko (imgT R set k) x (by have:=HRL.o k;omega) (by omega));clear hb hx hg;go_wp2;go_round);(case rel=>exact⟨k+1,by omega,by go_num,by rw[HNN.o,HOr.o]⟩);case measure=>simp[intOf];omega
  ·obtain rfl:k=R.length:=by omega
   go_wp2;go_ret;exact⟨by rw[HRS.o];rfl,HB.o⟩
structure TgS(lo hi:Nat)(w:World)(v1 v2 v3 v4:Value)(a b:Au):Prop where
 one:AuS lo hi w (.agg #[v1,v2]) a
 two:AuS lo hi w (.agg #[v3,v4]) b
theorem TgS.below {a b:Au}(h:TgS lo hi w v1 v2 v3 v4 a b)(hb:Below B w w')(hB:hi<=B):TgS lo hi w' v1 v2 v3 v4 a b:=⟨h.one.below hb hB,h.two.below hb hB⟩
theorem TgS.outside {a b:Au}(h:TgS lo hi w v1 v2 v3 v4 a b)(ho:β lo' hi' w w')(hd:hi<=lo'\/hi'<=lo):TgS lo hi w' v1 v2 v3 v4 a b:=⟨h.one.outside ho hd,h.two.outside ho hd⟩
theorem TgS.wide {a b:Au}(h:TgS lo hi w v1 v2 v3 v4 a b)(h1:lo'<=lo)(h2:hi<=hi'):TgS lo' hi' w v1 v2 v3 v4 a b:=⟨h.one.wide h1 h2,h.two.wide h1 h2⟩
theorem zo7 {e:TypeId}(h:Blk g (.cells #[x0,x1] e (0,0)) w)(a b:Value):Blk g (.cells #[a,b] e (0,0)) ((w.setCell (p_ g 0) a).setCell (p_ g 1) b):=(h.put 0 a).put 1 b
theorem zos(g:Nat)(w:World)(a b:Value):β g (g+1) w ((w.setCell (p_ g 0) a).setCell (p_ g 1) b):=
 ((β.refl _ _ _).setCell (p:=p_ g 0) (le_ _) (D_ _) _).setCell (p:=p_ g 1) (le_ _) (D_ _) _
theorem zll(lo hi:Nat)(v1 v2 v3 v4:Value)(a b:Au)(x y m:Nat)(w:World)(h:TgS lo hi w v1 v2 v3 v4 a b)(hh:hi<=w)(ha:zb4 a)(hb:zb4 b)(hx:x<1048576)(hy:y<1048576)(hm:m<12):
  c_ 140 #[.agg #[v1,v2,v3,v4],.agg #[.int .i64 (x:Nat),.int .i64 (y:Nat)],.int .i64 (m:Nat)] w (.agg #[.int .i64 ((stepU a x m:Nat):Int),.int .i64 ((stepU b y m:Nat):Int)]):=by
 have⟨wa,hwa⟩:=xa_ w #[v1,v2,v3,v4] 143;have⟨wb,hwb⟩:=xa_ wa #[.int .i64 (x:Nat),.int .i64 (y:Nat)] 151;have⟨wc,hwc⟩:=xa_ wb #[(0:Int),(0:Int)] 151;have ha1:Below w w wa:=by rw[hwa];exact ζ _ _
 have hb1:Below wa wa wb:=by rw[hwb];exact ζ _ _
 have hc1:Below wb wb wc:=by rw[hwc];exact ζ _ _
 have ka:Blk w (.cells #[v1,v2,v3,v4] 143) wa:=by rw[hwa];exact κ w _
 have kb:Blk wa (.cells #[.int .i64 (x:Nat),.int .i64 (y:Nat)] 151) wb:=by rw[hwb];exact κ wa _
 have kc:Blk wb (.cells #[(0:Int),(0:Int)] 151) wc:=by rw[hwc];exact κ wb _
 have sa:wa=w.heap.size+1:=by rw[hwa];simp
 have sb:wb=w.heap.size+2:=by rw[hwb];simp;omega
 have sc:wc=w.heap.size+3:=by rw[hwc];simp;omega
 have HB:Q_ (Below w w wc):=H_ ((ha1.trans (hb1.mono (by omega))).trans (hc1.mono (by omega)));have KA:=H_ ((ka.below hb1 (by omega)).below hc1 (by omega));have KB:=H_ (kb.below hc1 (by omega));have KC:=H_ kc;rw[sa]at KB;rw[sb]at KC;have HT:=H_ (h.below HB.o hh);have HAO:=H_ ha;have HBO:=H_ hb;have HS:Q_ (∀ w':World,Below wc wc w'->(w'.cell? (p_ w 0)=some v1/\w'.cell? (p_ w 1)=some v2/\w'.cell? (p_ w 2)=some v3/\w'.cell? (p_ w 3)=some v4/\w'.cell? (p_ (w+1) 0)=some (.int .i64 (x:Nat))/\w'.cell? (p_ (w+1) 1)=some (.int .i64 (y:Nat)))):=H_ λw' hb'=>⟨(KA.o.below hb' (by omega)).cell 0,(KA.o.below hb' (by omega)).cell 1,(KA.o.below hb' (by omega)).cell 2,(KA.o.below hb' (by omega)).cell 3,(KB.o.below hb' (by omega)).cell 0,(KB.o.below hb' (by omega)).cell 1⟩
 have HT2:Q_ (∀ w2 w3:World,Below wc wc w2->β (w.heap.size+1+1) (w.heap.size+1+1+1) w2 w3->(w3.cell? (p_ w 0)=some v1/\w3.cell? (p_ w 1)=some v2/\w3.cell? (p_ w 2)=some v3/\w3.cell? (p_ w 3)=some v4/\w3.cell? (p_ (w+1) 0)=some (.int .i64 (x:Nat))/\w3.cell? (p_ (w+1) 1)=some (.int .i64 (y:Nat)))):=H_ λw2 w3 hb' ho'=>by
  have k1:=(KA.o.below hb' (by omega)).outside ho' (by omega);have k2:=(KB.o.below hb' (by omega)).outside ho' (by omega);exact⟨k1.cell 0,k1.cell 1,k1.cell 2,k1.cell 3,k2.cell 0,k2.cell 1⟩
 have hC:Q_ (∀ w':World,Below wc wc w'->Blk (w.heap.size+1+1) (.cells #[(0:Int),(0:Int)] 151) w'):=H_ λw' hb'=>KC.o.below hb' (by omega)
 obtain⟨c0,c1,c2,c3,c4,c5⟩:=HS.o wc (B_ _ _);obtain⟨d0,d1,d2,d3,d4,d5⟩:=HS.o wc.drew (z_ (B_ _ _));have hdz:wc.drew.heap.size=wc.heap.size:=rfl;clear h ha hb ka kb kc ha1 hb1 hc1
 go_enter func140,ntmps140
 go_upto_region 1 with fail
 simp only[<-hwa,<-hwb,<-hwc];clear hwa hwb hwc
 go_region_held3 (λw'=>w'.cell? (p_ w 0)=some v1/\w'.cell? (p_ w 1)=some v2/\w'.cell? (p_ w 2)=some v3/\w'.cell? (p_ w 3)=some v4/\w'.cell? (p_ (w+1) 0)=some (.int .i64 (x:Nat))/\w'.cell? (p_ (w+1) 1)=some (.int .i64 (y:Nat))) (first | with_reducible assumption | go_keep) (first
  | (go_at_call_of 182 (Value.agg #[v1,v2]);refine(zpc lo hi _ a x m wc.drew HT.o.one (by omega) HAO.o hx hm).mono ?_;rintro e1 w1 ⟨rfl,hb1_⟩;(have hz1:=hb1_.size);(have hb1:Below wc wc w1:=(z_ (B_ _ _)).trans (hb1_.mono (le_ _)));obtain⟨f0,f1,f2,f3,f4,f5⟩:=HS.o _ hb1;(have HB1:=H_ hb1);clear hb1_ hb1)
  | (go_at_call_of 182 (Value.agg #[v3,v4]);refine(zpc lo hi _ b y m w1 (HT.o.two.below HB1.o (by omega)) (by omega) HBO.o hy hm).mono ?_;rintro e2 w2 ⟨rfl,hb2_⟩;(have hz2:=hb2_.size);(have hb2:Below wc wc w2:=HB1.o.trans (hb2_.mono (by omega)));obtain⟨g0,g1,g2,g3,g4,g5⟩:=HS.o _ hb2;(have hk2:=hC.o _ hb2);(obtain⟨p0,p1⟩:=hk2.c2);(obtain⟨p2,p3⟩:=hk2.f2);(have hO2:=zos (w.heap.size+1+1) w2 ((stepU a x m:Nat):Int) ((stepU b y m:Nat):Int));(have hk3:=zo7 hk2 ((stepU a x m:Nat):Int) ((stepU b y m:Nat):Int));obtain⟨i0,i1,i2,i3,i4,i5⟩:=HT2.o _ _ hb2 hO2;(have HB2:=H_ (ε (HB.o.trans (hb2.mono (by omega))) hO2 (by omega) (by omega)));(have HK2:=H_ hk3);clear hb2_ hb2 hk2 hO2 hk3))
 generalize ((w2.setCell (p_ (w.heap.size+1+1) 0) ((stepU a x m:Nat):Int)).setCell (p_ (w.heap.size+1+1) 1) ((stepU b y m:Nat):Int))=wz at HB2 HK2 i0 i1 i2 i3 i4 i5 ⊢;have⟨q0,q1⟩:=HK2.o.c2;go_wp2;refine d_ (v:=.agg #[.int .i64 ((stepU a x m:Nat):Int),.int .i64 ((stepU b y m:Nat):Int)]) (by simp[results,results140,go_sem,q0,q1]) rfl ⟨rfl,HB2.o⟩
theorem zpo(lo hi:Nat)(v1 v2 v3 v4:Value)(a b:Au)(x y:Nat)(w:World)(h:TgS lo hi w v1 v2 v3 v4 a b)(hh:hi<=w)(ha:zb4 a)(hb:zb4 b)(hx:x<1048576)(hy:y<1048576):
  c_ 141 #[.agg #[v1,v2,v3,v4],.agg #[.int .i64 (x:Nat),.int .i64 (y:Nat)]] w ((apartP a b (x,y):Nat):Int):=by
 have⟨wa,hwa⟩:=xa_ w #[v1,v2,v3,v4] 143;have⟨wc,hwc⟩:=xa_ wa #[.int .i64 (x:Nat),.int .i64 (y:Nat)] 151;have ha1:Below w w wa:=by rw[hwa];exact ζ _ _
 have hb1:Below wa wa wc:=by rw[hwc];exact ζ _ _
 have ka:Blk w (.cells #[v1,v2,v3,v4] 143) wa:=by rw[hwa];exact κ w _
 have kb:Blk wa (.cells #[.int .i64 (x:Nat),.int .i64 (y:Nat)] 151) wc:=by rw[hwc];exact κ wa _
 have sa:wa=w.heap.size+1:=by rw[hwa];simp
 have sc:wc=w.heap.size+2:=by rw[hwc];simp;omega
 have HB:Q_ (Below w w wc):=H_ (ha1.trans (hb1.mono (by omega)));have KA:=H_ (ka.below hb1 (by omega));have KB:=H_ kb;rw[sa]at KB;have HT:=H_ (h.below HB.o hh);have HAO:=H_ ha;have HBO:=H_ hb;have HS:Q_ (∀ w':World,Below wc wc w'->(w'.cell? (p_ w 0)=some v1/\w'.cell? (p_ w 1)=some v2/\w'.cell? (p_ w 2)=some v3/\w'.cell? (p_ w 3)=some v4/\w'.cell? (p_ (w+1) 0)=some (.int .i64 (x:Nat))/\w'.cell? (p_ (w+1) 1)=some (.int .i64 (y:Nat)))):=H_ λw' hb'=>⟨(KA.o.below hb' (by omega)).cell 0,(KA.o.below hb' (by omega)).cell 1,(KA.o.below hb' (by omega)).cell 2,(KA.o.below hb' (by omega)).cell 3,(KB.o.below hb' (by omega)).cell 0,(KB.o.below hb' (by omega)).cell 1⟩
 obtain⟨c0,c1,c2,c3,c4,c5⟩:=HS.o wc (B_ _ _);obtain⟨d0,d1,d2,d3,d4,d5⟩:=HS.o wc.drew (z_ (B_ _ _));have hdz:wc.drew.heap.size=wc.heap.size:=rfl;have HX:=H_ (zrz (endsU a x) (endsU b y) (by have:=ha.endsLt x;omega) (by have:=hb.endsLt y;omega));clear h ha hb ka kb ha1 hb1
 go_enter func141,ntmps141
 go_upto_region 1 with fail
 simp only[<-hwa,<-hwc];clear hwa hwc
 go_region_held3 (λw'=>w'.cell? (p_ w 0)=some v1/\w'.cell? (p_ w 1)=some v2/\w'.cell? (p_ w 2)=some v3/\w'.cell? (p_ w 3)=some v4/\w'.cell? (p_ (w+1) 0)=some (.int .i64 (x:Nat))/\w'.cell? (p_ (w+1) 1)=some (.int .i64 (y:Nat))) (first | with_reducible assumption | go_keep) (first
  | (go_at_call_of 183 (Value.agg #[v1,v2]);refine(zog lo hi _ a x wc.drew HT.o.one (by omega) HAO.o hx).mono ?_;rintro e1 w1 ⟨rfl,hb1_⟩;(have hz1:=hb1_.size);(have hb1:Below wc wc w1:=(z_ (B_ _ _)).trans (hb1_.mono (le_ _)));obtain⟨f0,f1,f2,f3,f4,f5⟩:=HS.o _ hb1;(have HB1:=H_ hb1);clear hb1_ hb1)
  | (go_at_call_of 183 (Value.agg #[v3,v4]);refine(zog lo hi _ b y w1 (HT.o.two.below HB1.o (by omega)) (by omega) HBO.o hy).mono ?_;rintro e2 w2 ⟨rfl,hb2_⟩;(have hz2:=hb2_.size);(have hb2:Below wc wc w2:=HB1.o.trans (hb2_.mono (by omega)));obtain⟨g0,g1,g2,g3,g4,g5⟩:=HS.o _ hb2;(have HB2:=HB.tr hb2 (by omega));clear hb2_ hb2))
 go_wp2;go_ret;exact⟨by rw[HX.o];rfl,HB2.o⟩
structure AusR(w w':World)(v1 v2 v3 v4:Value)(ok:Bool)(e f:List Int):Prop where
 tg:TgS w w' w' v1 v2 v3 v4 (autV e) (autV f)
 below:Below w w w'
 open_:ok=true->(autV e).ends≠[]/\(autV f).ends≠[]
 shut:ok=false->(autV e).ends=[]\/(autV f).ends=[]
theorem zmx(lo hi lo' hi':Nat)(ve vf:Value)(e f:List Int)(w:World)(hx:SlI lo hi w ve e)(hy:SlI lo' hi' w vf f)(hh:hi<=w)(hh':hi'<=w)(hm:e.length<=1048576)(hm':f.length<=1048576):
  Calls prog 137 #[ve,vf] w (ι λr w'=>∃ v1 v2 v3 v4 ok,r=.tuple #[.agg #[v1,v2,v3,v4],.bool ok]/\AusR w w' v1 v2 v3 v4 ok e f):=by
 have⟨w0,hw0⟩:=xa_ w #[(),(),(),()] 143;obtain⟨hb0,KS_,hs0⟩:=Η hw0;have KS:=H_ KS_;have HB0:=H_ hb0;have HX:=H_ (hx.below hb0 hh);have HY:=H_ (hy.below hb0 hh');clear hx hy hb0 KS_
 go_enter func137,ntmps137
 go_wp2_with fail
 simp only[<-hw0];clear hw0;refine(zqk _ _ _ e w0 HX.o (by omega) hm).mono ?_;rintro e1 w1 ⟨v1,rfl,⟨va,vb,ss,rfl,ha1,ha2⟩,hb1⟩;have hz1:=hb1.size;have HA1:=H_ (a_ ha1 ha2);have HB1:=H_ hb1;clear ha1 ha2 hb1;go_wp2_with fail
 refine(zqk _ _ _ f w1 (HY.o.below HB1.o (by omega)) (by omega) hm').mono ?_;rintro e2 w2 ⟨v2,rfl,⟨vc,vd,tt,rfl,ha1,ha2⟩,hb2⟩;have hz2:=hb2.size;have HA2:=H_ (a_ ha1 ha2);have HB2:=H_ hb2;obtain⟨ca,cca,rfl⟩:=η HA1.o.1;obtain⟨cb,ccb,rfl⟩:=η HA1.o.2.1;obtain⟨cc,ccc,rfl⟩:=η HA2.o.1;obtain⟨cd,ccd,rfl⟩:=η HA2.o.2.1;clear ha1 ha2 hb2;go_upto_region 2 with fail
 have⟨w3,hw3⟩:=xa_ w2 #[.slice ca (autV e).ends.length cca,.slice cb ss ccb,.slice cc (autV f).ends.length ccc,.slice cd tt ccd] 143;obtain⟨hb3,KT,hs3⟩:=Η hw3;have HB03:=H_ ((HB1.o.trans (HB2.o.mono hz1)).trans (hb3.mono (by omega)));have K3:=KS.o.below HB03.o KS.o.lt
 have HT':Q_ (TgS (w+1) w3 w3 (.slice ca (autV e).ends.length cca) (.slice cb ss ccb) (.slice cc (autV f).ends.length ccc) (.slice cd tt ccd) (autV e) (autV f)):=by
  have h1:AuS w0 w1 w1 (.agg #[.slice ca (autV e).ends.length cca,.slice cb ss ccb]) (autV e):=⟨_,_,rfl,HA1.o.1.sl,HA1.o.2.sl⟩;have h2:AuS w1 w2 w2 (.agg #[.slice cc (autV f).ends.length ccc,.slice cd tt ccd]) (autV f):=⟨_,_,rfl,HA2.o.1.sl,HA2.o.2.sl⟩;exact H_ ⟨((h1.below HB2.o (le_ _)).below hb3 (by omega)).wide (by omega) (by omega),(h2.below hb3 (le_ _)).wide (by omega) (by omega)⟩
 obtain⟨t0,t1,t2,t3⟩:=KT.c4;obtain⟨s0,s1,s2,s3⟩:=K3.c4;obtain⟨f0,f1,f2,f3⟩:=K3.f4;have KZ:=K3.set4 (.slice ca (autV e).ends.length cca) (.slice cb ss ccb) (.slice cc (autV f).ends.length ccc) (.slice cd tt ccd);have HO:=β.set4 w w3 (.slice ca (autV e).ends.length cca) (.slice cb ss ccb) (.slice cc (autV f).ends.length ccc) (.slice cd tt ccd);have HKZ:=H_ (a_ KZ HO);have d0:w3.drew.cell? (p_ w2 0)=_:=t0;have d1:w3.drew.cell? (p_ w2 1)=_:=t1;have d2:w3.drew.cell? (p_ w2 2)=_:=t2;have d3:w3.drew.cell? (p_ w2 3)=_:=t3;have hsz3:w2.heap.size≠w.heap.size:=by omega
 simp only[<-hw3];clear hw3 K3 KZ HO KT hb3;have⟨n1,hn1⟩:=ex_ ((autV e).ends.length);have⟨n2,hn2⟩:=ex_ ((autV f).ends.length);have H1:=H_ hn1;have H2:=H_ hn2;rw[<-hn1,<-hn2]at HKZ HT';rw[<-hn1]at t0 d0;rw[<-hn2]at t2 d2;rw[<-hn1,<-hn2];clear hn1 hn2 HA1 HA2;cases g1:decide (0<n1)<;>cases g2:decide (0<n2)
 all_goals go_region
 all_goals (
  have⟨wz,hwz⟩:=ex_ (((((w3.setCell (p_ w 0) (.slice ca n1 cca)).setCell (p_ w 1) (.slice cb ss ccb)).setCell (p_ w 2) (.slice cc n2 ccc)).setCell (p_ w 3) (.slice cd tt ccd)).drew);have KZ:=HKZ.o.1.drew;have HO:=HKZ.o.2.drw;rw[<-hwz]at KZ HO;rw[<-hwz];obtain⟨q0,q1,q2,q3⟩:=KZ.c4
  have HF:=H_ (show TgS w wz wz (.slice ca n1 cca) (.slice cb ss ccb) (.slice cc n2 ccc) (.slice cd tt ccd) (autV e) (autV f)/\Below w w wz from
   ⟨(((TgS.wide (lo':=w.heap.size+1) HT'.o (le_ _) (le_ _)).outside HO (.inr (le_ _))).wide (Nat.le_succ _) HO.size),ε (HB0.o.trans (HB03.o.mono (by omega))) HO (le_ _) (by omega)⟩)
  clear KZ HO hwz;go_wp2)
 rotate_left 3
 ·exact d_ (v:=.tuple #[.agg #[.slice ca n1 cca,.slice cb ss ccb,.slice cc n2 ccc,.slice cd tt ccd],.bool true]) (by simp[results,results137,go_sem,q0,q1,q2,q3]) rfl (ι.mk _ rfl ⟨_,_,_,_,_,rfl,HF.o.1,HF.o.2,λ_=>⟨λh=>by rw[H1.o,h] at g1;simp at g1,λh=>by rw[H2.o,h] at g2;simp at g2⟩,λh=>by cases h⟩)
 all_goals
  exact d_ (v:=.tuple #[.agg #[.slice ca n1 cca,.slice cb ss ccb,.slice cc n2 ccc,.slice cd tt ccd],.bool false]) (by simp[results,results137,go_sem,q0,q1,q2,q3]) rfl (ι.mk _ rfl ⟨_,_,_,_,_,rfl,HF.o.1,HF.o.2,(λh=>by cases h),λ_=>by first | exact .inl (A_ (by have:=H1.o;have:=bc_ g1;omega)) | exact .inr (A_ (by have:=H2.o;have:=bc_ g2;omega))⟩)
theorem PM.far {b:Nat} {qs:List (Nat × Nat)}(h:PM w b qs)(ho:Own sz lo hi e w v n xs)(hg:w.grownBy w' v.ownBlock):PM w' b qs:=by
 refine h.blk (hg.block b h.lt λe=>?_);obtain⟨D,⟨es,c,hb,_⟩,_⟩:=h;rcases ho.1.2 with⟨rfl,_⟩|⟨g,cap,cur,rfl,_,hg',_⟩
 ·cases e
 ·simp only[Value.ownBlock,ar_]at e
  subst e;rw[hb]at hg';cases hg'
structure PrI(G:Nat × Nat->Prop)(w wr:World)(v1 v2 v3 v4 v:Value)(ps qs:List (Nat × Nat)):Prop where
 kt:Blk w (.cells #[v1,v2,v3,v4] 143 (0,0)) wr
 list:zdw (w+1) wr wr v ps
 map:PM wr (w+2) qs
 below:Below w w wr
 fit:∀ p∈ps,zdu p/\G p
 same:qs=ps
theorem PrI.go {G:Nat × Nat->Prop} {ps qs:List (Nat × Nat)}(h:PrI G w wr v1 v2 v3 v4 v ps qs)(hb:Below wr wr wx):PrI G w wx v1 v2 v3 v4 v ps qs:=
 ⟨h.kt.below hb h.kt.lt,(h.list.below hb (le_ _)).lower (le_ _) hb.size,h.map.below hb h.map.lt,h.below.trans (hb.mono h.below.size),h.fit,h.same⟩
theorem PrI.push {G:Nat × Nat->Prop} {ps qs:List (Nat × Nat)}(h:PrI G w wr v1 v2 v3 v4 v ps qs)(hp:zdu p)(hgp:G p)(hm:PM wx (w+2) (qs++[p]))(hg:wr.grownBy wx (some (w.heap.size+2)))
  (ho:Own 2 (w+1) wy 151 wy v' (ps.length+1) (prs ps++zeo p)) (hg2:(wx.alloc (.cells (zeo p).toArray 151)).grownBy wy v.ownBlock):PrI G w wy v1 v2 v3 v4 v' (ps++[p]) (qs++[p]):=by
 have hlt:=h.map.lt;have hs1:=hg.size;have hs2:=hg2.size;have hs3:(wx.alloc (.cells (zeo p).toArray 151)).heap.size=wx.heap.size+1:=μ _ _;have hO:=zet hg;have hlo:Own 2 (w+1) wr 151 wr v ps.length (prs ps):=h.list
 have hne:v.ownBlock≠some (w.heap.size+2):=λe=>by
  obtain⟨D,⟨es,c,hb,_⟩,_⟩:=h.map;rcases hlo.1.2 with⟨rfl,_⟩|⟨g,cap,cur,rfl,_,hg',_⟩
  ·cases e
  ·simp only[Value.ownBlock,ar_]at e
   subst e;rw[hb]at hg';cases hg'
 have hlx:Own 2 (w+1) wr 151 wx v ps.length (prs ps):=⟨hlo.1.kept hg (by
  cases hb:v.ownBlock with
  | none=>exact .inl rfl
  | some k=>right;rw[<-hb];exact hne),hlo.2⟩
 have hla:=hlx.alloc (.cells (zeo p).toArray 151);have hO2:=zb1 hg2 hla.lt;have ha:=ζ wx (.cells (zeo p).toArray 151);refine⟨?_,?_,?_,?_,?_,?_⟩
 ·exact((h.kt.outside hO (by omega)).below ha (by have:=h.kt.lt;omega)).outside hO2 (by omega)
 ·show Own 2 _ _ _ _ _ (ps++[p]).length (prs (ps++[p]))
  rw[n_,ztg]
  simpa [prs] using ho
 ·exact(hm.below ha hm.lt).far hla hg2
 ·exact ε ((ε h.below hO (by omega) h.below.size).trans (ha.mono (by have:=h.below.size;omega))) hO2 (by omega) (by have:=h.below.size;omega)
 ·intro q hq
  rcases E_.1 hq with hq|hq
  ·exact h.fit q hq
  ·simp only[k_]at hq;subst hq;exact⟨hp,hgp⟩
 ·rw[h.same]
theorem z1z:(Tryz.prog.info? 151).map (λi=>(i.zero,i.size,i.bytes))=some (some (.agg #[(0:Int),(0:Int)]),2,16):=by kernel_rfl
theorem PrI.own5 {G:Nat × Nat->Prop} {ps qs:List (Nat × Nat)}(h:PrI G w wr v1 v2 v3 v4 v ps qs)(hg:wr.grownBy wx (some (w.heap.size+2))):Own 2 (w+1) wr 151 wx v ps.length (prs ps):=by
 have hlo:Own 2 (w+1) wr 151 wr v ps.length (prs ps):=h.list;refine⟨hlo.1.kept hg ?_,hlo.2⟩;cases hb:v.ownBlock with
 | none=>exact .inl rfl
 | some k=>
  right
  intro e;obtain⟨D,⟨es,c,hb2,_⟩,_⟩:=h.map;rcases hlo.1.2 with⟨rfl,_⟩|⟨g,cap,cur,rfl,_,hg',_⟩
  ·cases hb
  ·simp only[Value.ownBlock,ar_]at hb e
   rw[hb,e,hb2]at hg';cases hg'
theorem PrI.len {G:Nat × Nat->Prop} {ps qs:List (Nat × Nat)}(h:PrI G w wr v1 v2 v3 v4 v ps qs):qs.length<=ps.length:=by rw[h.same];exact le_ _
theorem zki(a b:Au)(o:List (Nat × Nat))(p:Nat × Nat):∀ k,∃ r,prow a b o p k=o++r
 | 0=>⟨[],by simp[prow]⟩
 | k+1=>by
  obtain⟨r,h⟩:=zki a b o p k;unfold prow
  split
  ·exact⟨r,h⟩
  ·exact⟨r++[nextP a b p k],by rw[h,Z_]⟩
def PgI(a b:Au)(k:Nat)(o:List (Nat × Nat)):Prop:=pairGo a b (102-k) k o=pairsA a b
theorem PgI.next {a b:Au} {o:List (Nat × Nat)}(h:PgI a b k o)(hk:k<o.length)(h100:k<=100)(hl:(prow a b o (o.getD k (0,0)) 12).length<=100):PgI a b (k+1) (prow a b o (o.getD k (0,0)) 12):=by
 unfold PgI at h ⊢;rw[<-h,show 102-k=(102-(k+1))+1 by omega,pairGo,x_ hk,m_ (by omega)]
theorem PgI.many {a b:Au} {o:List (Nat × Nat)}(h:PgI a b k o)(hk:k<o.length)(h100:k<=100)(hl:100<(prow a b o (o.getD k (0,0)) 12).length):pairsA a b=none:=by
 unfold PgI at h;rw[<-h,show 102-k=(102-(k+1))+1 by omega,pairGo,x_ hk,x_ hl]
theorem PgI.done {a b:Au} {o:List (Nat × Nat)}(h:PgI a b o.length o)(h100:o.length<=100):pairsA a b=some o:=by
 unfold PgI at h;rw[<-h,show 102-o.length=(102-(o.length+1))+1 by omega,pairGo,m_ (by omega)]
theorem zsc {a b:Au} {o:List (Nat × Nat)}(h:nextP a b p k∈prow a b o p k):prow a b o p (k+1)=prow a b o p k:=by rw[prow,x_ h]
theorem zph {a b:Au} {o:List (Nat × Nat)}(h:nextP a b p k ∉ prow a b o p k):prow a b o p (k+1)=prow a b o p k++[nextP a b p k]:=by rw[prow,m_ h]
def ze8(wm:World)(X Y pv:Value)(wx:World):Prop:=∃ gp:Nat,pv=.pointer (q_ gp 0)/\Q_ (wm.heap.size<=gp/\Blk gp (.cells #[X,Y] 151 (0,0)) wx/\Below wm wm wx)
theorem ze8.a(h:Below wm wm w1):ze8 wm X Y (.pointer (q_ w1 0)) (w1.alloc (.cells #[X,Y] 151)):=
 ⟨_,rfl,H_ ⟨h.size,κ w1 _,h.trans ((ζ w1 _).mono h.size)⟩⟩
theorem ze8.b {y0:Value}(hk:Blk wm (.cells #[x0,y0] 151 (0,0)) w1)(h:Below wm wm w1):ze8 wm X Y (.pointer (q_ wm 0)) ((w1.setCell (p_ wm 0) X).setCell (p_ wm 1) Y):=
 ⟨_,rfl,H_ ⟨le_ _,zo7 hk X Y,ε h (zos _ _ _ _) (le_ _) h.size⟩⟩
theorem zow(lo hi:Nat)(v1 v2 v3 v4:Value)(a b:Au)(w:World)(h:TgS lo hi w v1 v2 v3 v4 a b)(hh:hi<=w)(ha:zb4 a)(hb:zb4 b)(G:Nat × Nat->Prop)(hG1:G (1,1))(hGn:∀ p,G p->∀ m,m<12->G (nextP a b p m)):
  Calls prog 138 #[.agg #[v1,v2,v3,v4]] w (ι λr w'=>∃ v ok ps,r=.tuple #[v,.bool ok]/\zdw w w' w' v ps/\ps.length<=112/\(∀ p∈ps,G p)/\pairsA a b=(if ok then some ps else none)/\(ok=false->ps=[])/\Below w w w'):=by
 have⟨w0,hw0⟩:=xa_ w #[v1,v2,v3,v4] 143;have⟨w1,hw1⟩:=xa_ w0 #[(1:Int),(1:Int)] 151;have⟨w2,hw2⟩:=ex_ (w1.alloc (.map #[] 0));have b0:Below w w w0:=by rw[hw0];exact ζ _ _
 have b1:Below w0 w0 w1:=by rw[hw1];exact ζ _ _
 have b2:Below w1 w1 w2:=by rw[hw2];exact ζ _ _
 have k0:Blk w (.cells #[v1,v2,v3,v4] 143) w0:=by rw[hw0];exact κ w _
 have s0:w0=w.heap.size+1:=by rw[hw0];simp
 have s1:w1=w.heap.size+2:=by rw[hw1];simp;omega
 have s2:w2=w.heap.size+3:=by rw[hw2];simp;omega
 have k1:Own 2 (w+1) (w+2) 151 w1 (.slice (q_ (w+1) 0) 1 1) 1 (prs [(1,1)]):=by
  have:=ς 2 151 w0 (prs [(1,1)]) 1 (by omega) rfl;rw[s0]at this;rw[hw1];exact this
 have k2:PM w2 (w+2) []:=by rw[<-s1,hw2];exact PM.made w1
 obtain⟨w3,hr3,hp3,hg3⟩:=k2.put (p:=(1,1)) ⟨by decide,by decide⟩ (by simp);have hO3:=zet hg3;have s3:=hg3.size;have HR3:=H_ hr3;have HI:Q_ (PrI G w w3 v1 v2 v3 v4 (.slice (q_ (w+1) 0) 1 1) [(1,1)] [(1,1)]):=H_ ⟨((k0.below b1 k0.lt).below b2 (by omega)).outside hO3 (by omega),((k1.below b2 (by omega)).outside hO3 (by omega)).wide2 (le_ _) (by omega),hp3,ε ((b0.trans (b1.mono (by omega))).trans (b2.mono (by omega))) hO3 (by omega) (by omega),by simp[hG1],rfl⟩;have HGN:=H_ hGn;have HT:=H_ h;have HAO:=H_ ha;have HBO:=H_ hb
 have HK:=H_ (show w2.cell? (p_ (w+1) 0)=some (.int .i64 1)/\w2.cell? (p_ (w+1) 1)=some (.int .i64 1) from by
  have hk:Blk (w+1) (.cells #[(1:Int),(1:Int)] 151) w2:=by
   rw[<-s0];exact Blk.below (by rw[hw1];exact κ w0 _) b2 (by omega)
  exact⟨hk.cell 0,hk.cell 1⟩)
 clear h ha hb hG1 hGn b0 b1 b2 k0 k1 k2 hp3 hg3 hO3 hr3
 go_enter func138,ntmps138
 go_upto_region 2 with fail
 simp only[<-hw0,<-hw1];have hmk:(Instr.makeMap 191 none).run prog w1=.ok (.map (some (w.heap.size+2))) w2:=by rw[<-s1,hw2];rfl
 have k2a:=HK.o.1;have k2b:=HK.o.2;have hr3:(Instr.mapUpdate 191 (.map (some (w.heap.size+2))) (.agg #[(1:Int),(1:Int)]) (.bool true)).run prog w2=.ok () w3:=HR3.o;clear hw0 hw1 hw2 HR3;go_wp2;clear hmk k2a k2b hr3 HK;go_loopw [4,6] (λv i wr=>∃ (k:Nat) (ps qs:List (Nat × Nat)),k<=ps.length/\ps.length<=100/\i=.int .i64 k/\Q_ (PrI G w wr v1 v2 v3 v4 v ps qs)/\Q_ (PgI a b k ps)) (λ_ i _=>101-(intOf i).toNat)
 case atStart=>exact⟨0,_,_,by simp,by simp,rfl,HI,H_ rfl⟩
 case round=>
  rename World=>wk
  clear HI;obtain⟨k,ps,qs,hk,h100,rfl,HI,HPG⟩:=hrel;obtain⟨la,lc,rfl⟩:=η (show Own 2 _ _ _ _ _ ps.length _ from HI.o.list);by_cases hlt:k<ps.length
  ·have hdk:decide ((k:Int)<(ps.length:Int))=true:=by simp;omega
   have⟨o,ho_⟩:=ex_ ps;have HOE:=H_ ho_;have hk100:k<=100:=by omega
   rw[<-ho_]at HPG;have HKO:=H_ (show k<o.length from by rw[ho_];exact hlt);clear ho_;go_wp2;go_loopw [4,22] (λv i wr=>∃ (m:Nat) (ps qs:List (Nat × Nat)),m<=12/\k<ps.length/\ps.length<=100+m/\i=.int .i64 m/\Q_ (PrI G w wr v1 v2 v3 v4 v ps qs)/\Q_ (ps=prow a b o (o.getD k (0,0)) m)) (λ_ i _=>12-(intOf i).toNat)
   case atStart=>exact⟨0,ps,qs,by omega,hlt,by omega,rfl,HI,H_ HOE.o.symm⟩
   case round=>
    rename World=>wm
    clear HI hdk HOE;obtain⟨m,ps,qs,hm,hkp,h112,rfl,HI,HPR⟩:=hrel;obtain⟨la,lc,rfl⟩:=η (show Own 2 _ _ _ _ _ ps.length _ from HI.o.list);by_cases hltm:m<12
    ·(have hdm:decide ((m:Int)<12)=true:=by simp;omega);(obtain⟨g4,rfl,_,_,hg4,c40,c41⟩:=HI.o.list.get k hkp;have⟨p,hp⟩:=ex_ (ps[k]);have hfp:zdu p:=(HI.o.fit p (by rw[hp];exact u_ _)).1;have HGP:=H_ (HI.o.fit p (by rw[hp];exact u_ _)).2;rw[<-hp]at c40 c41)
     have HPK:=H_ (show o.getD k (0,0)=p from by
      obtain⟨r,hr⟩:=zki a b o (o.getD k (0,0)) m;have hko:=HKO.o;rw[hp,List.getD,l_ hko,ac_,c6_ (HPR.o.trans hr),aq_ hko])
     clear hp;obtain⟨x,y⟩:=p;have hx:=hfp.1;have hy:=hfp.2;simp only at c40 c41 hx hy;have HTM:=H_ (HT.o.below HI.o.below hh);have hlow:=HI.o.below.size;have hmm:wm.drew.heap.size=wm.heap.size:=rfl;have hma:(wm.alloc (.cells #[(0:Int),(0:Int)] 151)).drew.heap.size=wm.heap.size+1:=μ _ _;have HNX:Q_ (∀ w':World,Below wm wm w'->Calls prog 140 #[.agg #[v1,v2,v3,v4],.agg #[.int .i64 (x:Nat),.int .i64 (y:Nat)],.int .i64 (m:Nat)] w' λe w''=>e=.returned (.agg #[(.int .i64 ((stepU a x m:Nat):Int)),(.int .i64 ((stepU b y m:Nat):Int))])/\Below w' w' w''):=H_ λw' hb'=>zll lo hi v1 v2 v3 v4 a b x y m w' (HTM.o.below hb' (by omega)) (by have:=hb'.size;omega) HAO.o HBO.o hx hy hltm
     (have hsm1:stepU a x m<1024:=HAO.o.step x hltm;have hsm2:stepU b y m<1024:=HBO.o.step y hltm;go_upto_region 9 with fail);go_cut [8] (λpv wx=>ze8 wm ((stepU a x m:Nat):Int) ((stepU b y m:Nat):Int) pv wx)
     case first=>
      (have hbd:Below wm wm wm.drew:=z_ (B_ _ _);have hba:Below wm wm (wm.alloc (.cells #[(0:Int),(0:Int)] 151)).drew:=z_ (ζ wm _);obtain⟨t0,t1,t2,t3⟩:=HI.o.kt.drew.c4;have t4:wm.drew.cell? (p_ g4 (k*2))=some (.int .i64 (x:Nat)):=c40;have t5:wm.drew.cell? (p_ g4 (k*2+1))=some (.int .i64 (y:Nat)):=c41;have u0:(wm.alloc (.cells #[(0:Int),(0:Int)] 151)).drew.cell? (p_ w 0)=_:=HI.o.kt.al.cell 0;have u1:(wm.alloc (.cells #[(0:Int),(0:Int)] 151)).drew.cell? (p_ w 1)=_:=HI.o.kt.al.cell 1;have u2:(wm.alloc (.cells #[(0:Int),(0:Int)] 151)).drew.cell? (p_ w 2)=_:=HI.o.kt.al.cell 2;have u3:(wm.alloc (.cells #[(0:Int),(0:Int)] 151)).drew.cell? (p_ w 3)=_:=HI.o.kt.al.cell 3;have u4:(wm.alloc (.cells #[(0:Int),(0:Int)] 151)).drew.cell? (p_ g4 (k*2))=some (.int .i64 (x:Nat)):=(hba.cell (p:=p_ g4 (k*2)) hg4).trans c40;have u5:(wm.alloc (.cells #[(0:Int),(0:Int)] 151)).drew.cell? (p_ g4 (k*2+1))=some (.int .i64 (y:Nat)):=(hba.cell (p:=p_ g4 (k*2+1)) hg4).trans c41;have HA:=H_ hba;clear hba)
      go_region_law (first
       | (go_simp;go_at_call 140;refine(HNX.o wm.drew hbd).mono ?_;rintro e1 w1 ⟨rfl,hb1_⟩;(have hb1:Below wm wm w1:=hbd.trans (hb1_.mono (le_ _)));(have hz1:=hb1.size);(have HB1:=H_ hb1);(have kz:=κ w1 (.cells #[(0:Int),(0:Int)] 151));(obtain⟨z0,z1⟩:=kz.c2);(obtain⟨z2,z3⟩:=kz.f2);clear hb1_ hb1 kz)
       | (go_simp;go_at_call 140;refine(HNX.o ((wm.alloc (.cells #[(0:Int),(0:Int)] 151)).drew) HA.o).mono ?_;rintro e1 w1 ⟨rfl,hb1_⟩;(have hz1:=hb1_.size);(have kz:Blk wm (.cells #[(0:Int),(0:Int)] 151) w1:=(κ wm (.cells #[(0:Int),(0:Int)] 151)).drew.below hb1_ (by rw[hma];exact D_ _));(obtain⟨z0,z1⟩:=kz.c2);(obtain⟨z2,z3⟩:=kz.f2);(have HB2:=H_ (a_ kz (HA.o.trans (hb1_.mono (by omega)))));clear hb1_ kz))
      all_goals (
       go_wp2_with fail
       go_meet
       first
        | exact ze8.a HB1.o
        | exact ze8.b HB2.o.1 HB2.o.2)
     case rest=>
      rename World=>wc
      obtain⟨gp,rfl,HG⟩:=hcut;have HIC:=H_ (HI.o.go HG.o.2.2);have hfit:zdu (stepU a x m,stepU b y m):=⟨by show stepU a x m<1048576;omega,by show stepU b y m<1048576;omega⟩;have hlk:(Instr.lookup 191 (.map (some (w.heap.size+2))) (.agg #[.int .i64 ((stepU a x m:Nat):Int),.int .i64 ((stepU b y m:Nat):Int)]) false).run prog wc=.ok (.bool (decide ((stepU a x m,stepU b y m)∈qs))) wc:=HIC.o.map.look hfit;have kp:=HG.o.2.1;obtain⟨c0,c1⟩:=kp.c2;have hgp:=kp.lt;have hgm:=HI.o.map.lt;have hgp2:=HG.o.1;have hqs:=HIC.o.len;have HSM:=H_ HIC.o.same;cases hmem:decide ((stepU a x m,stepU b y m)∈qs)
      ·(obtain⟨w5,hr5_,hp5,hg5⟩:=HIC.o.map.put hfit (by omega));(have hr5:(Instr.mapUpdate 191 (.map (some (w.heap.size+2))) (.agg #[.int .i64 ((stepU a x m:Nat):Int),.int .i64 ((stepU b y m:Nat):Int)]) (.bool true)).run prog wc=.ok () w5:=hr5_;have HP5:=H_ (a_ hp5 hg5);have kp5:=kp.outside (zet hg5) (by omega);obtain⟨d0,d1⟩:=kp5.c2;have hs5:=hg5.size;have hs0:=HIC.o.below.size;have HO5:=H_ (HIC.o.own5 hg5))
       have HPN:=H_ (show ps++[(stepU a x m,stepU b y m)]=prow a b o (o.getD k (0,0)) (m+1) from by
        (have h1:nextP a b (o.getD k (0,0)) m=(stepU a x m,stepU b y m):=by rw[HPK.o];rfl);rw[zph (by rw[h1,<-HPR.o,<-HSM.o];simpa using hmem),h1,<-HPR.o])
       rw[hmem]at hlk;clear hmem hp5 hg5 hr5_ kp kp5 HG HI;go_wp2_with (at_builtin;go_loud (refine zbn w5 rfl _ _ 146 rfl 151 (.agg #[(0:Int),(0:Int)]) 2 16 underlying146 z1z rfl (by decide) (by decide) rfl HO5.o 1 [.int .i64 ((stepU a x m:Nat):Int),.int .i64 ((stepU b y m:Nat):Int)] rfl rfl (by intro u hu;simp only[N_,bj_,bx_] at hu;rcases hu with rfl | rfl<;>rfl) rfl ?c1 ?c2 ?_))
       case c1=>omega
       case c2=>omega
       intro v6 w6 ho6 hg6 _ _;have HI6:=H_ (PrI.push HIC.o hfit (HGN.o _ HGP.o m hltm) HP5.o.1 HP5.o.2 ho6 hg6);obtain⟨la6,lc6,rfl⟩:=η ho6;clear ho6 hg6;go_wp2;go_roundw
       (case rel=>exact⟨m+1,_,_,by omega,by simp;omega,by simp;omega,by go_num,HI6,HPN⟩);case measure=>simp[intOf];omega
      ·have HPN:=H_ (show ps=prow a b o (o.getD k (0,0)) (m+1) from by
        (have h1:nextP a b (o.getD k (0,0)) m=(stepU a x m,stepU b y m):=by rw[HPK.o];rfl);rw[zsc (by rw[h1,<-HPR.o,<-HSM.o];simpa using hmem),<-HPR.o])
       rw[hmem]at hlk;clear hmem kp HG HI;go_wp2;go_roundw
       (case rel=>exact⟨m+1,ps,qs,by omega,hkp,by omega,by go_num,HIC,HPN⟩);case measure=>simp[intOf];omega
    ·(obtain rfl:m=12:=by omega);by_cases h1:100<ps.length
     ·(have HNO:=H_ (HPG.o.many HKO.o hk100 (by rw[<-HPR.o];exact h1)));(have hd1:decide ((100:Int)<(ps.length:Int))=true:=by simp;omega);go_wp2;refine d_ (v:=.tuple #[(),.bool false]) (by simp[results,results138,go_sem]) rfl ?_;exact ι.mk _ rfl ⟨_,_,[],rfl,Ω _ _ _ _ _,by simp,(λp hp=>by cases hp),HNO.o,(λ_=>rfl),HI.o.below⟩
     ·have HNX:=H_ (show PgI a b (k+1) ps from by
       (have h:=HPG.o.next HKO.o hk100 (by rw[<-HPR.o];omega))
       rwa [<-HPR.o]at h)
      (have hd1:decide ((100:Int)<(ps.length:Int))=false:=by simp;omega);go_wp2;go_roundw
      (case rel=>exact⟨k+1,ps,qs,by omega,by omega,by go_num,HI,HNX⟩);case measure=>simp[intOf];omega
  ·obtain rfl:k=ps.length:=by omega
   go_wp2;refine d_ (v:=.tuple #[.slice la ps lc,.bool true]) (by simp[results,results138,go_sem]) rfl ?_;exact ι.mk _ rfl ⟨_,_,ps,rfl,HI.o.list.lower (Nat.le_succ _) (le_ _),by omega,(λp hp=>(HI.o.fit p hp).2),HPG.o.done h100,(λh=>by cases h),HI.o.below⟩
def zi0(e f r:List Int):Prop:=∃ x y:Nat,r=[(x:Int),(y:Int)]/\x<2 ^ (autV e).ends.length/\y<2 ^ (autV f).ends.length
def prL(ps:List (Nat × Nat)):List (List Int):=ps.map λp=>[(p.1:Int),(p.2:Int)]
noncomputable def zf6(e f:List Int):List (List Int):=prL ((pairsV e f).getD [])
theorem AuS.shape {a:Au}(h:AuS lo hi w (.agg #[v1,v2]) a):(∃ a1 n1 c1,v1=.slice a1 n1 c1)/\∃ a2 n2 c2,v2=.slice a2 n2 c2:=by
 obtain⟨va,vb,e,h1,h2⟩:=h;have e':=congrArg (λv=>match v with | .agg cs=>cs.toList | _=>[]) e;simp at e';obtain⟨rfl,rfl⟩:=e';obtain⟨a1,c1,r1,_⟩:=π h1;obtain⟨a2,c2,r2,_⟩:=h2.shape;exact⟨⟨_,_,_,r1⟩,⟨_,_,_,r2⟩⟩
theorem zvw(lo hi lo' hi':Nat)(ve vf:Value)(e f:List Int)(w:World)(hx:SlI lo hi w ve e)(hy:SlI lo' hi' w vf f)(hh:hi<=w)(hh':hi'<=w)(hm:e.length<=1048576)(hm':f.length<=1048576):
  Calls prog 136 #[ve,vf] w (ι λv w'=>(∃ ss,LLs w w' w' v ss (zf6 e f)/\ss.length<=112/\∀ r∈zf6 e f,zi0 e f r)/\Below w w w'):=by
 have HX:=H_ hx;have HY:=H_ hy;clear hx hy
 go_enter func136,ntmps136
 go_wp2_with fail
 refine(zmx _ _ _ _ _ _ e f w HX.o HY.o hh hh' hm hm').mono ?_;rintro e1 w1 ⟨r,rfl,v1,v2,v3,v4,ok,rfl,ha⟩;have hz1:=ha.below.size;have HA:=H_ ha;clear ha;obtain⟨⟨a1,n1,d1,rfl⟩,a2,n2,d2,rfl⟩:=HA.o.tg.one.shape;obtain⟨⟨a3,n3,d3,rfl⟩,a4,n4,d4,rfl⟩:=HA.o.tg.two.shape;have⟨w2,hw2⟩:=xa_ w1 #[.slice a1 n1 d1,.slice a2 n2 d2,.slice a3 n3 d3,.slice a4 n4 d4] 143;obtain⟨hb2,KT,hs2⟩:=Η hw2;obtain⟨c0,c1,c2,c3⟩:=KT.c4;have HB2:=H_ (HA.o.below.trans (hb2.mono hz1));have HT2:=H_ ((HA.o.tg.below hb2 (le_ _)));clear hb2 KT;cases ok
 ·have HE0:=H_ (show zf6 e f=[] from by unfold zf6 pairsV;rw[x_ (HA.o.shut rfl)];rfl)
  go_wp2;go_ret;rw[<-hw2];rw[HE0.o];exact ι.mk _ rfl ⟨⟨[],zfu _ _ _,by simp,λr hr=>by cases hr⟩,HB2.o⟩
 ·have HVA:=H_ (show pairsV e f=pairsA (autV e) (autV f) from by unfold pairsV;rw[m_ (λh=>h.elim (HA.o.open_ rfl).1 (HA.o.open_ rfl).2)])
  go_wp2_with fail
  simp only[<-hw2];clear hw2;refine(zow _ _ _ _ _ _ _ _ w2 HT2.o (by omega) (zbo e) (zbo f) (λp=>p.1<2 ^ (autV e).ends.length/\p.2<2 ^ (autV f).ends.length) ⟨co_ (λh=>(HA.o.open_ rfl).1 (A_ h)),co_ (λh=>(HA.o.open_ rfl).2 (A_ h))⟩ (λp _ m hm=>⟨zi9 e _ m hm,zi9 f _ m hm⟩)).mono ?_;rintro e3 w3 ⟨r,rfl,v,ok,ps,rfl,hp,h112,hgd,hpa,hpz,hb3⟩;rw[<-HVA.o]at hpa
  have HRT:Q_ (zf6 e f=prL ps):=H_ (by
   rw[zf6,hpa];cases ok
   ·rw[hpz rfl];rfl
   ·rfl)
  clear hpa hpz;have HGD:=H_ hgd;have hz3:=hb3.size;obtain⟨la,lc,rfl⟩:=η (show Own 2 _ _ _ _ _ ps.length _ from hp);have HP:=H_ hp;have HB3:=HB2.tr hb3 (by omega);clear hp hb3 hgd;go_wp2;go_loopw [9,27] (λv i wr=>∃ (k:Nat) (ss:List Value) (xss:List (List Int)),k<=ps.length/\ss.length=k/\i=.int .i64 k/\Q_ (LLs w3 wr wr v ss xss/\Below w3 w3 wr/\(∀ r∈xss,zi0 e f r)/\xss=prL (ps.take k))) (λ_ i _=>ps.length-(intOf i).toNat)
  case atStart=>exact⟨0,[],[],by omega,rfl,rfl,H_ ⟨zfu _ _ _,B_ _ _,(λr hr=>by cases hr),rfl⟩⟩
  case round=>
   rename World=>wr
   obtain⟨k,ss,xss,hk,rfl,rfl,HQ⟩:=hrel;obtain⟨oa,oc,rfl⟩:=η HQ.o.1.1;have hzr:=HQ.o.2.1.size;by_cases hlt:ss.length<ps.length
   ·(obtain⟨g4,rfl,_,_,hg4,c40,c41⟩:=(HP.o.below HQ.o.2.1 (le_ _)).get ss.length hlt);(have HGR:=HGD.o _ (u_ hlt);have HTK:=H_ (F_ hlt);generalize ps[ss.length]=p at c40 c41 HGR HTK;obtain⟨x,y⟩:=p;simp only at c40 c41 HGR;have HRO:Q_ (zi0 e f [(x:Int),(y:Int)]):=H_ ⟨x,y,rfl,HGR.1,HGR.2⟩;clear HGR;have⟨w5,hw5⟩:=ex_ ((wr.alloc (.cells #[.int .i64 (x:Nat),.int .i64 (y:Nat)] 151)).alloc (.cells #[.int .i64 (x:Nat),.int .i64 (y:Nat)] 3));have hs5:w5=wr.heap.size+1+1:=by rw[hw5];simp);(have HS5:=H_ hs5;have hb5:Below wr wr w5:=by rw[hw5];exact(ζ _ _).trans ((ζ _ _).mono (by simp)))
    have hr5:γ w3 w5 3 w5 (.slice (q_ (wr+1) 0) 2 2) [(x:Int),(y:Int)]:=by
     have h:=ς 1 3 (wr.alloc (.cells #[.int .i64 (x:Nat),.int .i64 (y:Nat)] 151)) (δ [(x:Int),(y:Int)]) 2 (by omega) rfl;rw[μ]at h;rw[hs5,hw5];exact(γ.len h rfl).lower (by omega) (by omega)
    (have HR5:=H_ (a_ hr5 (a_ hb5 ((HQ.o.1.below hb5 (le_ _)).lower (le_ _) hb5.size)));have hzz:w3<=w5.heap.size:=by omega);clear hs5 hb5 hr5;go_wp2_with (at_builtin;go_loud (refine zbn w5 rfl _ _ 119 rfl 22 () 1 24 underlying119 zab rfl (by decide) (by decide) rfl HR5.o.2.2.1 1 [.slice (q_ (wr+1) 0) 2 2] (by rw[HS5.o];rfl) rfl (by intro u hu;simp only[k_] at hu;subst hu;rfl) (by rw[hw5]) ?c1 ?c2 ?_))
    case c1=>omega
    case c2=>exact hzz
    intro v6 w6 ho6 hg6 _ _;rw[<-hw5]at hg6;have HQ6:=H_ (zga HR5.o.2.2 HR5.o.1 ho6 hg6);have HB6:=H_ (ε (HQ.o.2.1.trans (HR5.o.2.1.mono hzr)) HQ6.o.2 (le_ _) hzz);obtain⟨oa6,oc6,rfl⟩:=η ho6;clear ho6 hg6 hw5;go_wp2;go_roundw
    case rel=>exact⟨ss.length+1,_,_,by omega,by simp,by go_num,H_ ⟨HQ6.o.1,HB6.o,(λr hr=>by
     rcases E_.1 hr with hr|hr
     ·exact HQ.o.2.2.1 r hr
     ·simp only[k_]at hr
      subst hr;exact HRO.o),by rw[HQ.o.2.2.2,HTK.o];simp[prL]⟩⟩
    case measure=>simp[intOf];omega
   ·(have hkl:ss.length=ps.length:=by omega);(have HL:=H_ hkl;clear hkl;have hd:decide ((ss.length:Int)<(ps.length:Int))=false:=by simp;omega);go_wp2;go_ret;have hxr:xss=zf6 e f:=by rw[HQ.o.2.2.2,HRT.o,HL.o,Y_]
    rw[<-hxr];exact ι.mk _ rfl ⟨⟨ss,HQ.o.1.lower (by omega) (le_ _),by omega,HQ.o.2.2.1⟩,HB3.o.trans (HQ.o.2.1.mono (by omega))⟩
def zhy(n:Nat)(x:Int):Bool:=decide (0<=x)&&decide (x<2 ^ n)
theorem zsb(lo hi:Nat)(v:Value)(a:Au)(x:Int)(w:World)(h:AuS lo hi w v a)(hh:hi<=w)(ho:zb4 a):
  c_ 179 #[v,.int .i64 x] w (.bool (zhy a.ends.length x)):=by
 obtain⟨va,vb,rfl,hE,hN⟩:=h;have⟨w0,hw0⟩:=xa_ w #[va,vb] 123;have HB:Q_ (Below w w w0):=by rw[hw0];exact H_ (ζ _ _)
 have K1:Blk w (.cells #[va,vb] 123) w0:=by rw[hw0];exact κ w _
 have c0:=K1.cell 0;obtain⟨ea,ec,rfl,_,_⟩:=π hE;have h10:=ho.le;have⟨n,hn⟩:=ex_ a.ends.length;rw[<-hn]at c0 hw0 h10 ⊢;have h2:2 ^ n<=2 ^ 10:=ah_ (by omega) h10
 have hw2:IntKind.i64.wrap (2 ^ n)=((2 ^ n:Nat):Int):=by
  have:=zd1 (2 ^ n) (by omega);rw[<-this];push_cast;rfl
 have HW:=H_ hw2;have HQ:=H_ (show ((2 ^ n:Nat):Int)=2 ^ n by push_cast;rfl);have hnI:(n:Int)<=10:=by omega
 clear hE hN ho K1 hn hw2 h2;by_cases h1:0<=x
 ·have hd:decide ((0:Int)<=x)=true:=by simp;omega
  go_enter func179,ntmps179
  go_wp2;go_ret;rw[<-hw0];refine⟨?_,HB.o⟩
  have hx:zhy n x=decide (x<wrap64 (2 ^ n)):=by
   unfold zhy;rw[hd,dx_,<-IntWalk.i64_left,HW.o,HQ.o]
  rw[hx];rfl
 ·have hd:decide ((0:Int)<=x)=false:=by simp;omega
  go_enter func179,ntmps179
  go_wp2;go_ret;rw[<-hw0];exact⟨by unfold zhy;rw[hd];rfl,HB.o⟩
structure OkI(w2 wr:World)(mb:Nat)(qs:List (Nat × Nat)):Prop where
 map:PM wr mb qs
 o:β mb (mb+1) w2 wr
theorem OkI.go {qs:List (Nat × Nat)}(h:OkI w2 wr mb qs)(hb:Below wr wr wx):OkI w2 wx mb qs:=
 ⟨h.map.below hb h.map.lt,h.o.trans (β.of_below hb (le_ _))⟩
theorem OkI.put {qs:List (Nat × Nat)}(h:OkI w2 wr mb qs)(hm:PM wx mb (qs++[p]))(hg:wr.grownBy wx (some mb)):OkI w2 wx mb (qs++[p]):=
 ⟨hm,h.o.trans (zet hg)⟩
theorem zrw(h:m<2 ^ n):zhy n (m:Nat)=true:=by
 have h3:((2 ^ n:Nat):Int)=2 ^ n:=by push_cast;rfl
 unfold zhy;rw[j_,t_,t_];omega
noncomputable def okX(e f:List Int)(ps:List (Nat × Nat)):Bool:=!(decide ((autV e).ends=[])||decide ((autV f).ends=[]))&&okP (autV e) (autV f) ps
theorem zm6 {e:List Int} {ps:List (Nat × Nat)}(h:(autV e).ends=[]\/(autV f).ends=[]):false=okX e f ps:=by
 unfold okX;rcases h with h|h<;>simp[h]
theorem zis {e:List Int} {ps:List (Nat × Nat)}(h:¬okP (autV e) (autV f) ps=true):false=okX e f ps:=by
 unfold okX;cases hk:okP (autV e) (autV f) ps
 ·simp
 ·exact absurd hk h
theorem zr9 {e:List Int} {ps:List (Nat × Nat)}(hp:p∈ps)(h:apartP (autV e) (autV f) p≠0):false=okX e f ps:=zis λhk=>h ((okP_open hk).2.2 p hp).2.2.1
theorem zqb {e:List Int} {ps:List (Nat × Nat)}(hp:p∈ps)(hm:m<12)(h:nextP (autV e) (autV f) p m ∉ ps):false=okX e f ps:=zis λhk=>h (((okP_open hk).2.2 p hp).2.2.2 m hm)
theorem zqg {e:List Int} {ps:List (Nat × Nat)}(ho:(autV e).ends≠[]/\(autV f).ends≠[])(hl:ps.length<=100)(h1:(1,1)∈ps)(hr:∀ r∈prL ps,zi0 e f r)(h:∀ p∈ps,apartP (autV e) (autV f) p=0/\∀ m,m<12->nextP (autV e) (autV f) p m∈ps):true=okX e f ps:=by
 unfold okX okP
 have h3:(ps.all λp=>decide (p.1<2 ^ (autV e).ends.length)&&decide (p.2<2 ^ (autV f).ends.length)&&(apartP (autV e) (autV f) p==0)&&(List.range 12).all λm=>decide (nextP (autV e) (autV f) p m∈ps))=true:=by
  rw[b5_];intro p hp;obtain⟨x,y,e1,hx,hy⟩:=hr [(p.1:Int),(p.2:Int)] (aa_.2 ⟨p,hp,rfl⟩);simp only[List.cons.injEq,Int.natCast_inj,and_true]at e1;obtain⟨e1,e2⟩:=e1;rw[<-e1]at hx;rw[<-e2]at hy;obtain⟨k1,k2⟩:=h p hp;simp only[j_,t_,b5_,c8_,bu_];exact⟨⟨⟨hx,hy⟩,k1⟩,k2⟩
 rw[h3];simp[ho.1,ho.2,hl,h1]
theorem zfx(ps:List (Nat × Nat)):(prL ps).length=ps.length:=by simp[prL]
theorem znl {ps:List (Nat × Nat)}(h:k<(prL ps).length)(h2:k<ps.length):(prL ps)[k]=[(ps[k].1:Int),(ps[k].2:Int)]:=by simp[prL]
theorem zud(lo hi lo' hi' lp hp:Nat)(ve vf vp:Value)(e f:List Int)(xss:List (List Int))(w:World)(hx:SlI lo hi w ve e)(hy:SlI lo' hi' w vf f)(hz:zbi lp hp w vp xss)(hh:hi<=w)(hh':hi'<=w)(hhp:hp<=w)(hm:e.length<=1048576)(hm':f.length<=1048576)(ps:List (Nat × Nat))(hxs:xss=prL ps)(hr:∀ r∈xss,zi0 e f r):
  Calls prog 135 #[ve,vf,vp] w (za4 λb w'=>b=okX e f ps/\Below w w w'):=by
 have HX:=H_ hx;have HR:=H_ hr;have HXS:=H_ hxs;have HPL:Q_ (xss.length=ps.length):=H_ (by rw[hxs];exact zfx ps);have HY:=H_ hy;have HZ:=H_ hz;obtain⟨pa,pc,rfl,_,_⟩:=hz.shape;clear hx hy hz hr hxs
 go_enter func135,ntmps135
 go_wp2_with fail
 refine(zmx _ _ _ _ _ _ e f w HX.o HY.o hh hh' hm hm').mono ?_;rintro e1 w1 ⟨r,rfl,v1,v2,v3,v4,ok,rfl,ha⟩;have hz1:=ha.below.size;have HA:=H_ ha;clear ha;obtain⟨⟨a1,n1,d1,rfl⟩,a2,n2,d2,rfl⟩:=HA.o.tg.one.shape;obtain⟨⟨a3,n3,d3,rfl⟩,a4,n4,d4,rfl⟩:=HA.o.tg.two.shape;have⟨w2,hw2⟩:=xa_ w1 #[.slice a1 n1 d1,.slice a2 n2 d2,.slice a3 n3 d3,.slice a4 n4 d4] 143;obtain⟨hb2,KT_,hs2⟩:=Η hw2;have KT:=H_ KT_;have HB2:=H_ (HA.o.below.trans (hb2.mono hz1));have HT2:=H_ ((HA.o.tg.below hb2 (le_ _)));clear hb2 KT_;by_cases hlen:xss.length<=100
 ·have hl1:decide ((100:Int)<(xss.length:Int))=false:=by simp;omega
  have HL100:=H_ (show ps.length<=100 from by rw[<-HPL.o];exact hlen);cases ok
  ·go_wp2
   go_ret;rw[<-hw2];exact za4.mk _ rfl ⟨zm6 (HA.o.shut rfl),HB2.o⟩
  ·have hmk:(Instr.makeMap 191 none).run prog w2=.ok (.map (some w2.heap.size)) (w2.alloc (.map #[] 0)):=rfl
   have HI:Q_ (OkI w2 (w2.alloc (.map #[] 0)) (w1+1) []):=H_ ⟨by rw[<-show w2=w1.heap.size+1 by rw[hw2];simp];exact PM.made w2,β.of_below (ζ w2 _) (le_ _)⟩;have hmb:w2<=w1.heap.size+1:=by rw[hw2];simp
   rw[hw2]at hmk;go_wp2;simp only[<-hw2];clear hmk hw2;go_loopw [30] (λi wr=>∃ (k:Nat) (qs:List (Nat × Nat)),k<=xss.length/\i=.int .i64 k/\Q_ (qs.length=k/\OkI w2 wr (w1+1) qs/\qs=ps.take k)) (λi _=>xss.length-(intOf i).toNat)
   case atStart=>exact⟨0,[],by omega,rfl,H_ ⟨rfl,HI.o,rfl⟩⟩
   case round=>
    rename World=>wr
    clear HI;obtain⟨k,qs,hk,rfl,HI⟩:=hrel;have HKT:=H_ (KT.o.outside HI.o.2.1.o (.inl (by omega)));by_cases hlt:k<xss.length
    ·(obtain⟨b5,off5,u5,rfl,_,_,_,c5,hu5⟩:=((HZ.o.below HB2.o hhp).outside HI.o.2.1.o (.inl (by omega))).get k hlt);(obtain⟨ra,rc,rfl,_,_⟩:=π hu5;obtain⟨m0,m1,hrow,hm0,hm1⟩:=HR.o _ (u_ hlt))
     have HTK:Q_ (qs++[(m0,m1)]=ps.take (k+1)):=H_ (by
      (have hkp:k<ps.length:=by rw[<-HPL.o];exact hlt);have e:=(c6_ HXS.o hlt).symm.trans hrow;rw[znl _ hkp]at e;simp only[List.cons.injEq,Int.natCast_inj,and_true]at e;rw[F_ hkp,HI.o.2.2,<-e.1,<-e.2])
     (have hle1:(2:Nat) ^ (autV e).ends.length<=2 ^ 10:=ah_ (by omega) (zbo e).le;have hle2:(2:Nat) ^ (autV f).ends.length<=2 ^ 10:=ah_ (by omega) (zbo f).le;have HB1:=H_ (zrw hm0);have HB2':=H_ (zrw hm1);have⟨hf0,hf1⟩:m0<1048576/\m1<1048576:=by omega);rw[hrow]at hu5 c5;obtain⟨b6,off6,rfl,_,_,hb6,r0⟩:=zc8 hu5 0 (by simp);obtain⟨b7,off7,e7,_,_,_,r1⟩:=zc8 hu5 1 (by simp);injection e7 with e7;injection e7 with e7 e8 _;subst e7 e8;simp only[cj_,bh_]at r0;simp only[de_,bh_]at r1;simp only[I_,an_,U_,Nat.reduceAdd]at c5;clear hu5 hrow hm0 hm1 hle1 hle2;have HTR:=H_ (HT2.o.outside HI.o.2.1.o (.inl (by omega)));have hzr:=HI.o.2.1.o.size;have HW:=H_ (ε HB2.o HI.o.2.1.o (by omega) (by omega));have hd:Below wr wr wr.drew:=z_ (B_ _ _);have HS1:Q_ (∀ w',Below wr wr w'->Calls prog 179 #[.agg #[.slice a1 n1 d1,.slice a2 n2 d2],.int .i64 (m0:Nat)] w' λe' w''=>e'=.returned true/\Below w'.heap.size w' w''):=H_ λw' hb'=>(zsb _ _ _ _ (m0:Nat) w' (HTR.o.one.below hb' (by omega)) (by have:=hb'.size;omega) (zbo e)).mono (by rw[HB1.o];exact λe' w'' h=>h)
     (have HS2:Q_ (∀ w',Below wr wr w'->Calls prog 179 #[.agg #[.slice a3 n3 d3,.slice a4 n4 d4],.int .i64 (m1:Nat)] w' λe' w''=>e'=.returned true/\Below w'.heap.size w' w''):=H_ λw' hb'=>(zsb _ _ _ _ (m1:Nat) w' (HTR.o.two.below hb' (by omega)) (by have:=hb'.size;omega) (zbo f)).mono (by rw[HB2'.o];exact λe' w'' h=>h))
     have HF:Q_ (∀ w',Below wr wr w'->w'.cell? (p_ w1 0)=some (.slice a1 n1 d1)/\w'.cell? (p_ w1 1)=some (.slice a2 n2 d2)/\w'.cell? (p_ w1 2)=some (.slice a3 n3 d3)/\w'.cell? (p_ w1 3)=some (.slice a4 n4 d4)/\w'.cell? (p_ b6 off6)=some (.int .i64 (m0:Nat))/\w'.cell? (p_ b6 (off6+1))=some (.int .i64 (m1:Nat))):=H_ λw' hb'=>by
      have k:=HKT.o.below hb' HKT.o.lt;exact⟨k.cell 0,k.cell 1,k.cell 2,k.cell 3,(hb'.cell (p:=p_ b6 off6) hb6).trans r0,(hb'.cell (p:=p_ b6 (off6+1)) hb6).trans r1⟩
     (obtain⟨f0,f1,f2,f3,f4,f5⟩:=HF.o wr (B_ _ _);obtain⟨g0,g1,g2,g3,g4,g5⟩:=HF.o wr.drew hd;have hdm:wr.drew.heap.size=wr.heap.size:=rfl;go_upto_region 8 with fail)
     go_region_held3 (λw'=>w'.cell? (p_ w1 0)=some (.slice a1 n1 d1)/\w'.cell? (p_ w1 1)=some (.slice a2 n2 d2)/\w'.cell? (p_ w1 2)=some (.slice a3 n3 d3)/\w'.cell? (p_ w1 3)=some (.slice a4 n4 d4)/\w'.cell? (p_ b6 off6)=some (.int .i64 (m0:Nat))/\w'.cell? (p_ b6 (off6+1))=some (.int .i64 (m1:Nat))) (first | with_reducible assumption | go_keep) (first
      | (go_at_call_of 179 (Value.agg #[Value.slice a1 n1 d1,Value.slice a2 n2 d2]);refine(HS1.o wr.drew hd).mono ?_;rintro e8 w8 ⟨rfl,hb8_⟩;(have hz8:=hb8_.size);(have HB8:=H_ (hd.trans (hb8_.mono (le_ _))));obtain⟨i0,i1,i2,i3,i4,i5⟩:=HF.o w8 HB8.o;clear hb8_)
      | (go_at_call_of 179 (Value.agg #[Value.slice a3 n3 d3,Value.slice a4 n4 d4]);refine(HS2.o w8 HB8.o).mono ?_;rintro e9 w9 ⟨rfl,hb9_⟩;(have hz9:=hb9_.size);(have HB9:=HB8.tr hb9_ (by omega));obtain⟨j0,j1,j2,j3,j4,j5⟩:=HF.o w9 HB9.o;clear hb9_))
     (have HI9:=H_ (HI.o.2.1.go HB9.o);have hpm:PM w9.drew (w1+1) qs:=HI9.o.map.blk rfl;have hql:=HI.o.1;obtain⟨wp,hrp_,hpp,hpg⟩:=hpm.put (p:=(m0,m1)) ⟨hf0,hf1⟩ (by omega);have hrp:(Instr.mapUpdate 191 (.map (some (w1.heap.size+1))) (.agg #[.int .i64 (m0:Nat),.int .i64 (m1:Nat)]) (.bool true)).run prog w9.drew=.ok () wp:=hrp_;have q4:w9.drew.cell? (p_ b6 off6)=some (.int .i64 (m0:Nat)):=j4;have q5:w9.drew.cell? (p_ b6 (off6+1))=some (.int .i64 (m1:Nat)):=j5;have HPP:=H_ (a_ hpp hpg);have HQL:=H_ hql;clear hrp_ hpm hpp hpg hql;go_upto_region 10 with fail);go_region
     go_wp2;go_roundw
     (case rel=>exact⟨k+1,_,by omega,by go_num,H_ ⟨by simp[HQL.o],OkI.put (wr:=w9.drew) ⟨HI9.o.map.blk rfl,HI9.o.o.drw⟩ HPP.o.1 HPP.o.2,HTK.o⟩⟩);case measure=>simp[intOf];omega
    ·(obtain rfl:k=xss.length:=by omega);have hlk:(Instr.lookup 191 (.map (some (w1.heap.size+1))) (.agg #[(1:Int),(1:Int)]) false).run prog wr=.ok (.bool (decide ((1,1)∈qs))) wr:=HI.o.2.1.map.look (p:=(1,1)) ⟨by decide,by decide⟩;have HW:=H_ (ε HB2.o HI.o.2.1.o (by omega) (by omega));have HQP:=H_ (show qs=ps from by rw[HI.o.2.2,HPL.o,Y_]);cases hmem:decide ((1,1)∈qs)
     ·(have HNO:=H_ (show false=okX e f ps from zis λh=>(bc_ hmem) (by rw[HQP.o];exact(okP_open h).2.1)));rw[hmem]at hlk;go_wp2;go_ret;exact za4.mk _ rfl ⟨HNO.o,HW.o⟩
     ·rw[hmem]at hlk
      (have HTR:=H_ (HT2.o.outside HI.o.2.1.o (.inl (by omega)));have HPM:=H_ HI.o.2.1.map;have HOR:=H_ HI.o.2.1.o;have HI2:=H_ (show w1+1<wr.heap.size from HI.o.2.1.map.lt);have hzr:=HI.o.2.1.o.size;have HM1:=H_ (show (1,1)∈ps from by rw[<-HQP.o];exact av_ hmem);clear HI hmem;go_wp2_with (first | (at_range;refine zwg wr rfl _ rfl (w1.heap.size+1) qs rfl HPM.o (λp=>apartP (autV e) (autV f) p=0/\∀ m,m<12->nextP (autV e) (autV f) p m∈ps) ?_;intro w5 cnt0 hrg0 hg0 hs0) | go_in));go_frame
      (have HB5:=H_ (show Below wr wr w5 from ⟨hg0.os,hg0.tape,hg0.output,hg0.size,λi hi=>hg0.block i hi (by simp)⟩);have HK5:=H_ ((KT.o.outside (show β (w1+1) (w1.heap.size+1+1) w2 wr from HOR.o) (.inl (by omega))).below HB5.o (by have:=KT.o.lt;omega));have HT5:=H_ (HTR.o.below HB5.o (by omega));have HR5:Q_ (RP w5 (w1+1) wr qs (λp=>apartP (autV e) (autV f) p=0/\∀ m,m<12->nextP (autV e) (autV f) p m∈ps) cnt0/\β wr (wr+1) w5 w5):=H_ ⟨hrg0,β.refl _ _ _⟩;have hs5:wr+1<=w5.heap.size:=by omega);(have hkl:w1<wr.heap.size:=by have:=HI2.o;omega);clear hrg0 hg0 hs0 hlk;go_loopw [12] (λ_ wx=>∃ cnt,Q_ (RP wx (w1+1) wr qs (λp=>apartP (autV e) (autV f) p=0/\∀ m,m<12->nextP (autV e) (autV f) p m∈ps) cnt/\β wr (wr+1) w5 wx)) (λ_ wx=>wx.rangeLeft (w1+1) wr)
      case atStart=>exact⟨cnt0,HR5⟩
      case round=>
       rename World=>wx
       clear HR5;obtain⟨cnt,HQ⟩:=hrel;have hzx:=HQ.o.2.size;go_wp2_with (first | (at_next;refine z1q wx rfl _ rfl (w1.heap.size+1) wr cnt qs _ rfl HQ.o.1 ?_ ?_) | go_in)
       ·intro hall
        have HYES:=H_ (show true=okX e f ps from zqg (HA.o.open_ rfl) HL100.o HM1.o (by rw[<-HXS.o];exact HR.o) (λp hp=>hall p.1 p.2 (by rw[HQP.o];exact hp)));clear hall;go_wp2;go_ret;exact za4.mk _ rfl ⟨HYES.o,(ε (HW.o.trans (HB5.o.mono (by omega))) HQ.o.2 (by omega) (by omega))⟩
       ·intro x y c w6 cnt' hxy hx hy hrp hlt hO hs hen
        (have HXY:=H_ (show (x,y)∈ps from by rw[<-HQP.o];exact hxy);clear hxy;have HRP:=H_ hrp;have HO6:=H_ (HQ.o.2.trans hO);have HLT:=H_ (show cnt' < wx.rangeLeft (w1+1) wr by rw[HQ.o.1.left];exact hlt);have hz6:=hO.size;have h6w:=HO6.o.size;clear hrp hO hs hlt HQ;have⟨w7,hw7⟩:=xa_ w6 #[.int .i64 (x:Nat),.int .i64 (y:Nat)] 151;obtain⟨hb7,KP_,hs7⟩:=Η hw7;have HK7:=H_ ((HK5.o.outside HO6.o (by omega)).below hb7 (by omega));have HT7:=H_ ((HT5.o.outside HO6.o (.inl (by omega))).below hb7 (by omega));have KP:=H_ KP_;have HB7:=H_ hb7;have⟨c0,c1,c2,c3⟩:=HK7.o.c4;clear hb7 KP_;rw[hw7]at c0 c1 c2 c3;have⟨q,hq⟩:=ex_ (apartP (autV e) (autV f) (x,y));have HQP':=H_ hq;clear hq;go_wp2_with fail);simp only[<-hw7];refine(zpo _ _ _ _ _ _ _ _ x y w7 HT7.o (by omega) (zbo e) (zbo f) hx hy).mono ?_;rintro e8 w8 ⟨rfl,hb8⟩;rw[<-HQP'.o];have hz8:=hb8.size;have HB8:=HB7.tr hb8 (by omega);have HK8:=H_ (HK7.o.below hb8 (by omega));have HP8:=KP.kb hb8;have HT8:=H_ (HT7.o.below hb8 (by omega));clear hw7 hen c0 c1 c2 c3 hb8 HT7 HK7;have HB8':=H_ (show w6<=w8.heap.size from by omega);have HWB:=H_ (show Below w w w8 from (ε (HW.o.trans (HB5.o.mono (by omega))) HO6.o (by omega) (by omega)).trans (HB8.o.mono (by omega)));by_cases hq0:q=0
        ·(have hqd:((q:Int) !=0)=false:=by simp[hq0]);(have HQ0:=H_ (show apartP (autV e) (autV f) (x,y)=0 from by rw[<-HQP'.o];exact hq0);clear hq0;go_wp2;go_loopw [78] (λi wy=>∃ m:Nat,m<=12/\i=.int .i64 m/\Q_ (Below w8 w8 wy)/\Q_ (∀ j,j<m->nextP (autV e) (autV f) (x,y) j∈ps)) (λi _=>12-(intOf i).toNat));case atStart=>exact⟨0,by omega,rfl,H_ (B_ _ _),H_ (λj hj=>by omega)⟩
         case round=>
          rename World=>wy
          obtain⟨m,hm,rfl,HY,HJ⟩:=hrel;have hzy:=HY.o.size;by_cases hltm:m<12
          ·(have hdm:decide ((m:Int)<12)=true:=by simp;omega);(have c0:=(HK8.o.below HY.o HK8.o.lt).cell 0;have c1:=(HK8.o.below HY.o HK8.o.lt).cell 1;have c2:=(HK8.o.below HY.o HK8.o.lt).cell 2;have c3:=(HK8.o.below HY.o HK8.o.lt).cell 3;have p0:=(HP8.o.below HY.o HP8.o.lt).cell 0;have p1:=(HP8.o.below HY.o HP8.o.lt).cell 1;go_wp2_with fail);refine(zll _ _ _ _ _ _ _ _ x y m wy (HT8.o.below HY.o (by omega)) (by omega) (zbo e) (zbo f) hx hy hltm).mono ?_;rintro e9 w9 ⟨rfl,hb9⟩;have hz9:=hb9.size;have HB9:=HY.tr hb9 hzy;have hs1:=(zbo e).step x hltm;have hs2:=(zbo f).step y hltm;have hpm:=(HRP.o.1.below HB8.o HRP.o.1.lt).below HB9.o (HRP.o.1.below HB8.o HRP.o.1.lt).lt;have hlk:(Instr.lookup 191 (.map (some (w1.heap.size+1))) (.agg #[.int .i64 ((stepU (autV e) x m:Nat):Int),.int .i64 ((stepU (autV f) y m:Nat):Int)]) false).run prog w9=.ok (.bool (decide ((stepU (autV e) x m,stepU (autV f) y m)∈qs))) w9:=hpm.look (p:=(stepU (autV e) x m,stepU (autV f) y m)) ⟨by show stepU (autV e) x m<1048576;omega,by show stepU (autV f) y m<1048576;omega⟩;clear hpm hb9 c0 c1 c2 c3 p0 p1;cases hmem:decide ((stepU (autV e) x m,stepU (autV f) y m)∈qs)
           ·(have HNO:=H_ (show false=okX e f ps from zqb HXY.o hltm (by rw[<-HQP.o];exact bc_ hmem)));rw[hmem]at hlk;go_wp2;go_ret;exact za4.mk _ rfl ⟨HNO.o,HWB.o.trans (HB9.o.mono (by omega))⟩
           ·have HJN:=H_ (show ∀ j,j<m+1->nextP (autV e) (autV f) (x,y) j∈ps from λj hj=>by
             by_cases hjm:j=m
             ·rw[hjm,<-HQP.o];exact av_ hmem
             ·exact HJ.o j (by omega))
            rw[hmem]at hlk;go_wp2;go_roundw
            (case rel=>exact⟨m+1,by omega,by go_num,HB9,HJN⟩);case measure=>simp[intOf];omega
          ·(obtain rfl:m=12:=by omega);(have HRF:=H_ (((HRP.o.below HB8.o).below HY.o).weak (G':=λp=>apartP (autV e) (autV f) p=0/\∀ m,m<12->nextP (autV e) (autV f) p m∈ps) (λp hp=>hp.elim id (λe=>by rw[e];exact⟨HQ0.o,HJ.o⟩)));have HOF:=H_ (HO6.o.trans (β.of_below (HB8.o.trans (HY.o.mono HB8'.o)) (le_ _)));clear HRP HO6;go_wp2;go_roundw);(case rel=>exact⟨cnt',H_ ⟨HRF.o,HOF.o⟩⟩);case measure=>rw[HRF.o.left];exact HLT.o
        ·(have hqd:((q:Int) !=0)=true:=by simp;omega);have HNO:=H_ (show false=okX e f ps from zr9 HXY.o (by rw[<-HQP'.o];exact hq0));clear hq0;go_wp2;go_ret;exact za4.mk _ rfl ⟨HNO.o,HWB.o⟩
 ·have hl1:decide ((100:Int)<(xss.length:Int))=true:=by simp;omega
  have HL100:=H_ (show ¬ps.length<=100 from by rw[<-HPL.o];exact hlen);cases ok
  ·go_wp2
   go_ret;rw[<-hw2];exact za4.mk _ rfl ⟨zm6 (HA.o.shut rfl),HB2.o⟩
  ·go_wp2
   go_ret;rw[<-hw2];exact za4.mk _ rfl ⟨zis λh=>HL100.o (okP_open h).1,HB2.o⟩
theorem zlz {qs:List (Nat × Nat)}(h:Own sz lo hi e w v n xs)(hm:PM w mb qs)(ho:β mb (mb+1) w w'):Own sz lo hi e w' v n xs:=by
 rcases h.1.2 with⟨e1,h0⟩|⟨g,cap,cur,e1,hb,hg,rest⟩
 ·exact⟨⟨h.1.1,.inl ⟨e1,h0⟩⟩,h.2⟩
 ·refine⟨⟨h.1.1,.inr ⟨g,cap,cur,e1,hb,?_,rest⟩⟩,h.2⟩
  rw[ho.block g (L_.1 hg).1 ?_]
  ·exact hg
  ·by_cases e2:g=mb
   ·subst e2
    obtain⟨D,⟨es,c,hb2,_⟩,_⟩:=hm;rw[hb2]at hg;cases hg
   ·omega
theorem WyL.past {ws:List ((Nat × Nat) × Value)} {l:List ((Nat × Nat) × List Int)} {qs:List (Nat × Nat)}(h:WyL lo hi w v n ws l)(hm:PM w mb qs)(ho:β mb (mb+1) w w'):WyL lo hi w' v n ws l:=
 ⟨zlz h.own hm ho,h.len,λi j1 j2=>by obtain⟨k0,k1,k2⟩:=h.tr i j1 j2;exact⟨k0,zlz k1 hm ho,k2⟩⟩
structure ze6(a b:Au)(qs:List (Nat × Nat))(ws:List ((Nat × Nat) × Value)):Prop where
 nodup:qs.Nodup
 small:∀ p∈qs,p.1<1024/\p.2<1024
 rch:∀ x∈ws,RchP a b x.1/\x.1.1<1024/\x.1.2<1024
 len:ws.length<=qs.length
theorem ze6.few {a b:Au} {qs:List (Nat × Nat)} {ws:List ((Nat × Nat) × Value)}(h:ze6 a b qs ws):ws.length<=1048576/\qs.length<=1048576:=by
 have:=pairs_few h.nodup h.small;have:=h.len;omega
theorem ze6.push {a b:Au} {qs:List (Nat × Nat)} {ws:List ((Nat × Nat) × Value)}(h:ze6 a b qs ws)(hn:p ∉ qs)(hp:p.1<1024/\p.2<1024)(hr:RchP a b p)(s:Value):ze6 a b (qs++[p]) (ws++[(p,s)]):=by
 refine⟨?_,λq hq=>?_,λx hx=>?_,by have:=h.len;simp;omega⟩
 ·rw[d2_]
  exact⟨h.nodup,by simp,λx hx y hy e=>by simp only[k_] at hy;subst hy;subst e;exact hn hx⟩
 ·rcases E_.1 hq with hq|hq
  ·exact h.small q hq
  ·simp only[k_]at hq;subst hq;exact hp
 ·rcases E_.1 hx with hx|hx
  ·exact h.rch x hx
  ·simp only[k_]at hx;subst hx;exact⟨hr,hp⟩
theorem ze6.none {a b:Au} {qs:List (Nat × Nat)} {ws:List ((Nat × Nat) × Value)}(h:ze6 a b qs ws):ze6 a b qs []:=⟨h.nodup,h.small,(λx hx=>by cases hx),aw_ _⟩
structure LvI(a b:Au)(w wr:World)(lv:Value)(n:Nat)(ws:List ((Nat × Nat) × Value))(l:List ((Nat × Nat) × List Int))(qs:List (Nat × Nat)):Prop where
 ways:WyL w wr wr lv n ws l
 map:PM wr (w+2) qs
 below:Below w w wr
 seen:ze6 a b qs ws
theorem LvI.go {a b:Au} {ws:List ((Nat × Nat) × Value)} {l:List ((Nat × Nat) × List Int)} {qs:List (Nat × Nat)}(h:LvI a b w wr lv n ws l qs)(hb:Below wr wr wx):LvI a b w wx lv n ws l qs:=
 ⟨(h.ways.below hb (le_ _)).lower (le_ _) hb.size (le_ _),h.map.below hb h.map.lt,h.below.trans (hb.mono h.below.size),h.seen⟩
structure FuI(a b:Au)(mb:Nat)(wS wx:World)(v:Value)(n:Nat)(fs:List ((Nat × Nat) × Value))(l:List ((Nat × Nat) × List Int))(qs:List (Nat × Nat)):Prop where
 ways:WyL wS wx wx v n fs l
 map:PM wx mb qs
 o:β mb (mb+1) wS wx
 seen:ze6 a b qs fs
theorem FuI.go {a b:Au} {fs:List ((Nat × Nat) × Value)} {l:List ((Nat × Nat) × List Int)} {qs:List (Nat × Nat)}(h:FuI a b mb wS wx v n fs l qs)(hb:Below wx wx wy):FuI a b mb wS wy v n fs l qs:=
 ⟨(h.ways.below hb (le_ _)).lower (le_ _) hb.size (le_ _),h.map.below hb h.map.lt,h.o.trans (β.of_below hb (le_ _)),h.seen⟩
theorem FuI.turn {a b:Au} {fs:List ((Nat × Nat) × Value)} {l:List ((Nat × Nat) × List Int)} {qs:List (Nat × Nat)}(h:FuI a b mb wS wx v n fs l qs)(hg:wx.grownBy w5 (some mb)):WyL wS w5 w5 v n fs l:=
 (h.ways.past h.map (zet hg)).lower (le_ _) hg.size (le_ _)
theorem FuI.push {a b:Au} {fs:List ((Nat × Nat) × Value)} {l:List ((Nat × Nat) × List Int)} {qs:List (Nat × Nat)}(h:FuI a b mb wS wx v n fs l qs)(hg:wx.grownBy w5 (some mb))(hm:PM w5 mb (qs++[p]))(hb7:Below w5 w5 w7)
  (hs:γ wS w7 3 w7 s t) (ht:t.length<=n) (ho:Own 3 wS w9 193 w9 v9 (fs.length+1) (wys fs++zc6 (p,s))) (hgr:(w7.alloc (.cells (zc6 (p,s)).toArray 193)).grownBy w9 v.ownBlock)
  (hn:p ∉ qs) (hp:p.1<1024/\p.2<1024) (hr:RchP a b p):FuI a b mb wS w9 v9 n (fs++[(p,s)]) (l++[(p,t)]) (qs++[p]):=by
 have ha:=ζ w7 (.cells (zc6 (p,s)).toArray 193);have hz9:=hgr.size;have h7:WyL wS w7 w7 v n fs l:=((h.turn hg).below hb7 (le_ _)).lower (le_ _) hb7.size (le_ _);have h7a:WyL wS (w7.alloc (.cells (zc6 (p,s)).toArray 193)).heap.size _ v n fs l:=(h7.below ha (le_ _)).lower (le_ _) ha.size (le_ _);have hm7:=(hm.below hb7 hm.lt);have hm7a:=hm7.below ha hm7.lt;refine⟨WyL.push h7a ((hs.below ha (le_ _)).lower (le_ _) ha.size) ht ho hgr hz9,hm7a.far h7a.own hgr,?_,h.seen.push hn hp hr s⟩;have hO:=zb1 hgr h7a.own.lt;exact(((h.o.trans (zet hg)).trans (β.of_below (hb7.trans (ha.mono hb7.size)) (le_ _))).fresh hO (le_ _))
theorem zyq:(Tryz.prog.info? 193).map (λi=>(i.zero,i.size,i.bytes))=some (some (.agg #[(0:Int),(0:Int),()]),3,40):=by kernel_rfl
theorem Blk.past {cs:Array Value} {e:TypeId} {f:Nat × Nat} {qs:List (Nat × Nat)}(h:Blk g (.cells cs e f) w)(hm:PM w mb qs)(ho:β mb (mb+1) w w'):Blk g (.cells cs e f) w':=by
 refine h.outside ho ?_;by_cases e2:g=mb
 ·subst e2
  obtain⟨D,⟨es,c,hb2,_⟩,_⟩:=hm;have h':w.heap[g]?=_:=h;rw[hb2]at h';cases h'
 ·omega
structure FwI(a b:Au)(mb:Nat)(wS:World)(g:Nat)(cs:Array Value)(wx:World)(v:Value)(n:Nat)(fs:List ((Nat × Nat) × Value))(l:List ((Nat × Nat) × List Int))(qs:List (Nat × Nat)):Prop where
 fu:FuI a b mb wS wx v n fs l qs
 blk:Blk g (.cells cs 193 (0,0)) wx
 ne:v.ownBlock≠some g
theorem FwI.go {a b:Au} {cs:Array Value} {fs:List ((Nat × Nat) × Value)} {l:List ((Nat × Nat) × List Int)} {qs:List (Nat × Nat)}(h:FwI a b mb wS g cs wx v n fs l qs)(hb:Below wx wx wy):FwI a b mb wS g cs wy v n fs l qs:=
 ⟨h.fu.go hb,h.blk.below hb h.blk.lt,h.ne⟩
theorem FwI.push {a b:Au} {cs:Array Value} {fs:List ((Nat × Nat) × Value)} {l:List ((Nat × Nat) × List Int)} {qs:List (Nat × Nat)}(h:FwI a b mb wS g cs wx v n fs l qs)(hg:wx.grownBy w5 (some mb))(hm:PM w5 mb (qs++[p]))(hb7:Below w5 w5 w7)
  (hs:γ wS w7 3 w7 s t) (ht:t.length<=n) (ho:Own 3 wS w9 193 w9 v9 (fs.length+1) (wys fs++zc6 (p,s))) (hgr:(w7.alloc (.cells (zc6 (p,s)).toArray 193)).grownBy w9 v.ownBlock)
  (hl:v9.ownBlock=v.ownBlock\/v9.ownBlock=some (w7.alloc (.cells (zc6 (p,s)).toArray 193)).heap.size)
  (hn:p ∉ qs) (hp:p.1<1024/\p.2<1024) (hr:RchP a b p):FwI a b mb wS g cs w9 v9 n (fs++[(p,s)]) (l++[(p,t)]) (qs++[p]):=by
 have ha:=ζ w7 (.cells (zc6 (p,s)).toArray 193);have k5:=h.blk.past h.fu.map (zet hg);have k7:=(k5.below hb7 k5.lt);have k8:=k7.below ha k7.lt;refine⟨h.fu.push hg hm hb7 hs ht ho hgr hn hp hr,?_,?_⟩
 ·exact(hgr.block g k8.lt (λe=>h.ne e.symm)).trans k8
 ·rcases hl with e|e
  ·rw[e];exact h.ne
  ·rw[e]
   intro e2;injection e2 with e2;have:=k8.lt;omega
theorem FuI.beside {a b:Au} {fs:List ((Nat × Nat) × Value)} {l:List ((Nat × Nat) × List Int)} {qs:List (Nat × Nat)}(h:FuI a b mb wS wx v n fs l qs)(cs:Array Value):FwI a b mb wS wx cs (wx.alloc (.cells cs 193)) v n fs l qs:=
 ⟨h.go (ζ _ _),κ wx _,λe=>by have:=(h.ways.own.lt _ e).2;omega⟩
theorem FuI.seek {a b:Au} {fs ws:List ((Nat × Nat) × Value)} {l l2:List ((Nat × Nat) × List Int)} {qs qs0:List (Nat × Nat)}(h:FuI a b mb wS wx v n fs l qs)(hw:WyL lo hi wS lv m ws l2)(hm:PM wS mb qs0):WyL lo hi wx lv m ws l2:=hw.past hm h.o
end
end Go.Proofs.YtfnnhimopokpnaaGreatDoor
