/- Lemmas for this seat; no condition. -/
import Derived.Test.YtfnnhimopokpnaaGreatDoorHBAD
namespace Go.Proofs.YtfnnhimopokpnaaGreatDoor
open Go.RowKit Proofs.Tryz
set_option maxRecDepth 100000
set_option maxHeartbeats 0
set_option linter.all false
variable {lo hi e n m cap g k c bm off:Nat} {w w3 w':World} {ys ks:List Value} {t p:KT} {xs x y:List Int}
section
theorem zfg:(Tryz.prog.info? 139).map (λi=>(i.zero,i.size,i.bytes))=some (some (.pointer none),1,8):=by kernel_rfl
section
variable {P:Program} {w:World} {ops:Array Oper} {rest:List Oper} {o:Oper} {a:Act} {Q:Exit->Act->World->Prop}
theorem za9(w0:World)(hgd:o.guard=none)(s x:Operand)(t:TypeId)
  (ho:o.op=.call { callee:=.builtin .append,args:=#[s,x],argTypes:=#[t,t] })
  (e:TypeId) (z:Value) (sz bytes:Nat) (ht:P.underlying t=some (.slice e)) (hinfo:(P.info? e).map (λi=>(i.zero,i.size,i.bytes))=some (some z,sz,bytes))
  (hzs:z.cells.size=sz) (hsz:0<sz) (hby:bytes<=64)
  {lo hi n:Nat} {v:Value} {xs:List Value} (hs:a.eval s=v) (hown:Own sz lo hi e w0 v n xs)
  (m:Nat) (ys:List Value) (hx:a.eval x=.slice (some ⟨w0,0,none⟩) m m) (hlen:ys.length=m*sz) (h1:∀ u∈ys,u.oneCell'=true) (hw:w=w0.alloc (.cells ys.toArray e))
  (hn:n+m<=1073741824) (hlo:lo<=w0)
  (h:∀ v' w',Own sz lo w'.heap.size e w' v' (n+m) (xs++ys)->w.grownBy w' v.ownBlock->(v'.ownBlock=v.ownBlock\/v'.ownBlock=some w.heap.size)->(v'=.slice none 0 0↔v=.slice none 0 0/\m=0)->wpList P ops Q rest (a.put o.dst v') w'):wpList P ops Q (o :: rest) a w:=by
 subst hw;obtain⟨i,hi0,hz,hsize,hb⟩:=bc_ hinfo;have hl:=(π sz e w0 ys m (by omega) hlen).sl;obtain⟨ao,c,e',hmc,hcm,hlen',hnone,hc⟩:=hl;injection e' with e1 e2 e3;subst e1 e3;have hmx:(n+m)*bytes<=140737488355328:=x_ (a6_ hn hby) (by decide);refine wpList_append_own_at _ hgd s x t ho lo e i z sz bytes ht hi0 hz hsize hb hzs hsz v n xs hs (hown.alloc _).1 _ m m ys hx hlen' ?_ h1 (by unfold maxLen;omega) hmx (by simp;omega) ?_
 ·intro j u hu
  have hj:=(ar_.1 hu).1;obtain⟨b,off,e1,_,_,_,e2⟩:=hc j hj;cases e1
  rw[aj_,e2,hu]
 ·intro v' w' h2 h3 h4 h5
  exact h v' w' (zf5 h2) h3 h5 h4
end
theorem Own.front {a:Option Addr}(h:Own 1 lo hi e w (.slice a n cap) n (ys++ks))(hm:ys.length=m)(ha:a≠none):Own 1 lo hi e w (.slice a m cap) m ys:=by
 obtain⟨⟨hlen,h1⟩,h2⟩:=h;refine⟨⟨by omega,?_⟩,λg hg=>h2 g (by cases a<;>simp[Value.ownBlock] at hg ⊢<;>exact hg)⟩;rcases h1 with⟨h0,_⟩|⟨g,cap',cur,hv,hg,hh,hn,hcap,hsz,htake⟩
 ·injection h0 with h0;exact absurd h0 ha
 ·cases hv
  have hln:ys.length+ks.length=n:=by simpa using hlen
  refine .inr ⟨g,cap,cur,rfl,hg,hh,by omega,hcap,hsz,?_⟩;have h3:(cur.toList.take (n*1)).take m=ys:=by rw[htake,<-hm,ba_]
  rw[dt_,dm_ (by omega)]at h3
  rwa [Nat.mul_one]
def zhm:=@Own.front
theorem Own.rest(h:Own 1 lo hi e w (.slice (some ⟨g,0,none⟩) n cap) n (ys++ks))(hm:ys.length=m)(c:Nat)(hc:ks.length=c):Sl 1 lo hi w (.slice (if cap=m then some ⟨g,0,none⟩ else some ⟨g,m,none⟩) c (cap-m)) c ks:=by
 obtain⟨a,cap',e1,h1,h2,h3,h4,h5⟩:=h.sl;injection e1 with e1 e2 e3;subst e1 e3;have hln:ys.length+ks.length=n:=by simpa using h3
 refine⟨_,_,rfl,by omega,by unfold maxLen at h2 ⊢;omega,by omega,(λh=>by split at h<;>cases h),λi hi=>?_⟩;rw[j_ (by omega)];obtain⟨b,off,f1,f2,f3,f4,f5⟩:=h5 (m+i) (by rw[i_];omega);injection f1 with f1;injection f1 with f1 f1';subst f1 f1';refine⟨g,m,rfl,f2,f3,f4,?_⟩;rw[G_]at f5;rw[f5,an_ (by omega)]
 congr 1
 omega
theorem RT.isPtr {row:Option Nat} {p:Value}(h:RT lo row w t p):∃ a,p=.pointer a:=by
 obtain⟨ps,⟨b,kv,h,_⟩,_⟩:=h.node;exact⟨_,h⟩
theorem Stk.ptrs {row:Option Nat}:∀ {ps:List Value} {ts:List KT},Stk lo row w ps ts->∀ u∈ps,u.oneCell'=true
 | [],_,_,u,hu=>by cases hu
 | _ :: _,[],h,_,_=>h.elim
 | p :: ps,t :: ts,h,u,hu=>by
  rcases z_.1 hu with rfl|hu
  ·obtain⟨a,rfl⟩:=h.1.isPtr
   rfl
  ·exact Stk.ptrs h.2 u hu
theorem zfi.of_own {v:Value} {ps:List Value} {row:Option Nat} {lo':Nat}(h:Own 1 lo hi e w v n ps)(hl:lo'<=lo)(hr:∀ g,row=some g->g<lo):zfi lo' row w v ps:=by
 obtain⟨a,cap,h1,h2,h3,h4,_,h6⟩:=h.sl;have hn:n=ps.length:=by omega
 subst hn;refine⟨a,cap,h1,h2,h3,λi hi=>?_⟩;obtain⟨b,off,e1,e2,e3,e4,e5⟩:=h6 i hi;refine⟨b,off,e1,by omega,λhb=>?_,e4,by rw[e5,c_ hi]⟩;have:=hr b hb.symm;omega
theorem zuk(lo hi:Nat)(v:Value)(xs:List Int)(at_ c:Nat)(w:World)(hx:SlI lo hi w v xs)(hm:xs.length<=1048576)(ha:at_<xs.length)(hs:zb2 (xs.take (at_+1)).reverse 1=some c):
  Calls prog 164 #[v,.int .i64 at_] w (zgj λx w'=>x=((at_+1-c:Nat):Int)/\1<=c/\c<=at_+1/\w=w'):=by
 obtain⟨a,cap,rfl,hcap,hcm,hc⟩:=hx.open;clear hx hcm hcap;have HS:=H_ hs;clear hs
 go_enter func164,ntmps164
 go_wp2
 go_loop [5,6] (λn i=>∃ (q:Nat) (need:Int) (r:Nat),q<=at_+1/\i=.int .i64 ((q:Int)-1)/\n=.int .i64 need/\0<need/\need<=1+(at_+1-q)/\Q_ (zb2 (xs.take q).reverse need=some r/\r+(at_+1)=c+q)) (λ_ i=>(intOf i+1).toNat)
 case atStart=>exact⟨at_+1,1,c,le_ _,by go_num,rfl,by omega,by omega,H_ ⟨HS.o,by omega⟩⟩
 case round=>
  obtain⟨q,need,r,hq,rfl,rfl,hn0,hn1,HI⟩:=hrel
  have hq0:0<q:=by
   rcases Nat.eq_zero_or_pos q with h|h
   ·subst h
    have:=HI.o.1;simp only[List.take_zero,cb_,zb2]at this;rw[j_ (by omega)]at this;cases this
   ·exact h
  obtain⟨q,rfl⟩:∃ p,q=p+1:=⟨q-1,by omega⟩;have hqx:q<xs.length:=by omega
  have hspan:=HI.o.1;rw[zqq xs q hqx,zh4 _ _ _ hn0,L_]at hspan;obtain⟨r',hr1,hr2⟩:=hspan;have HI2:=H_ (And.intro hr1 (show r'+(at_+1)=c+q by have:=HI.o.2;omega));obtain⟨b,off,rfl,_,_,_,hcell⟩:=hc q hqx;obtain⟨t0,t1⟩:=zeo xs[q];have hsub:(((q+1:Nat):Int))-1=(q:Int):=by omega
  clear hr1 hr2 hc;by_cases hz:need+(Θ xs[q]-1)=0
  ·have hz1:(need+(Θ xs[q]-1)==0)=true:=by simp[hz]
   have hr0:r'=0:=by
    have h:=HI2.o.1;rw[show need-1+Θ xs[q]=0 by omega,zjy]at h;injection h with h;exact h.symm
   have hfin:=HI2.o.2;clear hz;go_wp2_with (go_at_call 121;refine(zgl _ _).mono ?_;rintro e w' ⟨rfl,rfl⟩)
   go_ret;exact zgj.mk _ rfl ⟨by omega,by omega,by omega,rfl⟩
  ·have hz1:(need+(Θ xs[q]-1)==0)=false:=by simpa using hz
   have hpos:0<need-1+Θ xs[q]:=by omega
   go_wp2_with (go_at_call 121;refine(zgl _ _).mono ?_;rintro e w' ⟨rfl,rfl⟩)
   go_round
   case rel=>exact⟨q,need-1+Θ xs[q],r',by omega,by first | rfl | go_num,by first | rfl | go_num,by omega,by omega,HI2⟩
   case measure=>simp[intOf]
def zly(lo:Nat)(w0 wr:World)(e:List Int)(k:Nat)(v:Value)(n:Nat):Prop:=
 ∃ xs st,Own 1 lo wr 139 wr v n xs/\Below lo w0 wr/\zad (e.take k) []=some st/\Stk lo v.ownBlock wr xs.reverse st/\n<=k
theorem zk2 {e:List Int}(h:zad e []=some [t])(k:Nat)(hk:k<e.length){st:List KT}(hs:zad (e.take k) []=some st):∃ st',za4 e[k] st=some st'/\zad (e.take (k+1)) []=some st':=by
 have h1:e=e.take k++(e[k] :: e.drop (k+1)):=by rw[<-List.drop_eq_getElem_cons hk,ad_]
 rw[h1,zgg,hs]at h;simp only[T_,zad,D_]at h;obtain⟨st',h2,_⟩:=h;refine⟨st',h2,?_⟩;rw[bg_,c_ hk,zgg,hs];simp[zad,h2]
theorem zkg {w0 wr w1:World} {e:List Int} {row:Option Nat} {st st':List KT} {s:Int} {a1:Option Addr} {c1:Nat} {v3:Value} {o:Obj}
  (hbel:Below lo w0 wr) (hlo:lo<=wr) (hrow:∀ g,row=some g->lo<=g/\g<wr.heap.size) (hstk:Stk lo row wr (ys++ks).reverse st) (hpush:za4 s st=some st') (hck:(ks.length:Int)=Θ s)
  (hrun:zad (e.take (k+1)) []=some st') (hmk:m<=k) (ho1:Own 1 wr w1 139 w1 (.slice a1 c c1) c ks) (hout:β wr wr wr w1)
  (ho3:Own 1 lo w3 139 w3 v3 (m+1) (ys++[.pointer (some ⟨w1,0,none⟩)]))
  (hgr:((w1.alloc (.cells #[.int .i64 s,.slice a1 c c1] 188)).alloc o).grownBy w3 row) (hloc:v3.ownBlock=row\/v3.ownBlock=some ((w1.alloc (.cells #[.int .i64 s,.slice a1 c c1] 188)).alloc o).heap.size) :
  zly lo w0 w3 e (k+1) v3 (m+1):=by
 have hs1:=hout.size;have hgs:=hgr.size;have hz2:(w1.alloc (.cells #[.int .i64 s,.slice a1 c c1] 188)).heap.size=w1.heap.size+1:=by simp
 have hz3:((w1.alloc (.cells #[.int .i64 s,.slice a1 c c1] 188)).alloc o).heap.size=w1.heap.size+1+1:=by simp
 have⟨w2,hw2⟩:=ex_ ((w1.alloc (.cells #[.int .i64 s,.slice a1 c c1] 188)).alloc o);have hb2:Below w1 w1 w2:=by rw[hw2];exact((B_ _ _).alloc (le_ _) _).alloc (by simp) _
 have hK:Blk w1 (.cells #[.int .i64 s,.slice a1 c c1] 188) w2:=by
  rw[hw2];exact(θ w1 _).below ((B_ (w1.alloc _).heap.size _).alloc (le_ _) _) (by simp)
 rw[<-hw2]at hgr hloc hgs hz3;have hk12:zdr lo row wr lo row w2:=⟨by omega,λi hi h1 h2=>⟨(hb2.block i (by omega)).trans (hout.block i hi (by omega)),h1,h2⟩⟩
 have hnode:zei lo row w2 (.pointer (some ⟨w1,0,none⟩)) s ks:=
  ⟨w1,_,rfl,by omega,λh=>by have:=hrow _ h.symm;omega,hK,zfi.of_own (ho1.below hb2 (le_ _)) hlo λg hg=>(hrow g hg).2⟩
 have hstk2:=Stk.push hpush (hstk.mono hk12) hck hnode
 have hk23:zdr lo row w2 lo v3.ownBlock w3:=⟨hgs,λi hi h1 h2=>⟨hgr.block i hi h2,h1,λh=>by
  rcases hloc with h'|h'
  ·exact h2 (h.trans h')
  ·have:=h.trans h'
   injection this with this;omega⟩⟩
 refine⟨_,_,ho3,?_,hrun,hstk2.mono hk23,by omega⟩;have h1:Below lo w0 w1:=δ hbel hout hlo hlo;have h2:Below lo w0 w2:=h1.trans (hb2.mono (by omega));refine⟨hgr.os.trans h2.os,hgr.tape.trans h2.tape,hgr.output.trans h2.output,x_ h2.size hgs,λi hi=>?_⟩;have hlt2:i<w2.heap.size:=by omega
 rw[hgr.block i hlt2 (λh=>by have:=hrow i h.symm;omega)];exact h2.block i hi
theorem zk6(v:Value)(e:List Int)(t:KT)(w:World)(hx:RdI w v e)(hm:e.length<=1000)(ht:zad e []=some [t]):
  Calls prog 132 #[v] w (η λp w'=>Below w w w'/\RT w none w' t p):=by
 obtain⟨a,cap,rfl,hcap,hcm,_⟩:=hx.open;have HX:=H_ hx;have HT:=H_ ht;clear hx ht
 go_enter func132,ntmps132
 go_wp2;go_loopw [3,10] (λv i wr=>∃ (k n:Nat),k<=e.length/\i=.int .i64 k/\Q_ (zly w w wr e k v n)) (λ_ i _=>e.length-(intOf i).toNat)
 case atStart=>exact⟨0,0,by omega,rfl,H_ ⟨[],[],Ξ _ _ _ _ _,B_ _ _,by simp[zad],trivial,le_ _⟩⟩
 case round=>
  obtain⟨k,n,hk,rfl,HR⟩:=hrel;by_cases hlt:k<e.length
  ·obtain⟨xs,st,hown,hbel,hrun,hstk,hnk⟩:=HR.o
   obtain⟨st',hpush,hrun'⟩:=zk2 HT.o k hlt hrun;obtain⟨hle,hlen'⟩:=zmx hpush;have⟨s,hs⟩:=ex_ (e[k]);rw[<-hs]at hpush hle hlen';obtain⟨c,hc⟩:∃ c:Nat,Θ s=c:=⟨(Θ s).toNat,by have:=zeo s;omega⟩;obtain⟨b,off,rfl,_,_,hbs,hcell⟩:=zcv (HX.o.below hbel) k hlt;have HK:=H_ hbel;have HP:=H_ hpush;have HN:=H_ hrun';have HS:=H_ hstk;have hck:wr.cell? (p_ b (off+k))=some (.int .i64 s):=by rw[hs];exact hcell
   have HTK:Q_ (∀ wx,Calls prog 121 #[.int .i64 s] wx λe w'=>e=.returned (.int .i64 (c:Int))/\wx=w'):=H_ λwx=>by rw[<-hc];exact zgl s wx
   have hxl:xs.length=n:=by have:=hown.1.1;omega
   have hst:st.length=n:=by have:=hstk.length;simp at this;omega
   obtain⟨ys,ks,rfl,hks,hys⟩:∃ ys ks,xs=ys++ks/\ks.length=c/\ys.length+c=n:=⟨xs.take (n-c),xs.drop (n-c),(ad_ _ _).symm,by simp;omega,by simp;omega⟩;obtain⟨m,hm'⟩:∃ m,m=ys.length:=⟨_,rfl⟩;obtain rfl:n=m+c:=by omega
   have hptr:=hstk.ptrs;have HCK:=H_ (show (ks.length:Int)=Θ s by omega);have hle':Below w w wr:=hbel;have hsz:=hbel.size;clear hs hcell hrun hpush hrun' hle hc;have hown':=hown;obtain⟨⟨_,hv|⟨g,cap2,cur,rfl,hg1,hg2,hg3,hg4,_,_⟩⟩,hlo⟩:=hown'
   ·(obtain⟨rfl,hmc⟩:=hv);(obtain⟨rfl,rfl⟩:m=0/\c=0:=by omega);(obtain rfl:ys=[]:=t_ hm'.symm;obtain rfl:ks=[]:=t_ hks;have HSL:=H_ (Ξ 1 wr wr 139 wr).sl;clear hm' hown hstk hle' HR hptr hks hys hxl hst;go_wp2_with (first | (go_at_call 121;refine(HTK.o _).mono ?_;rintro e w' ⟨rfl,rfl⟩) | (at_builtin;go_loud (refine Ο rfl _ _ 186 rfl 139 (.pointer none) 1 8 underlying186 zfg rfl (by decide) (by decide) rfl (Ξ 1 wr wr 139 wr) rfl HSL.o (by simp) ?c1 ?c2 ?_))));case c1=>omega
    case c2=>omega
    intro v1 w1 ho1 _ hout1 _;obtain⟨a1,c1,rfl,_⟩:=ι ho1;have HO1:=H_ ho1;have HOUT:=H_ hout1;have hs1:=hout1.size;have⟨w2,hw2⟩:=xa_ w1 #[.int .i64 s,.slice a1 0 c1] 188;have hsz2:w2=w1.heap.size+1:=by rw[hw2];simp
    (have HW2:=H_ hw2;clear ho1 hout1 hw2;go_wp2_with (first | rw[<-HW2.o] | (at_builtin;go_loud (refine za9 w2 rfl _ _ 186 rfl 139 (.pointer none) 1 8 underlying186 zfg rfl (by decide) (by decide) rfl (Ξ 1 w w 139 w2) 1 [.pointer (some ⟨w1,0,none⟩)] (by rw[hsz2];rfl) rfl (by simp[Value.oneCell']) rfl ?c1 ?c2 ?_))));case c1=>omega
    case c2=>omega
    intro v3 w3 ho3 hgr3 hloc _;have HB3:=H_ (zkg (k:=k) (e:=e) (row:=none) (m:=0) HK.o hsz (λx hx=>by cases hx) HS.o HP.o HCK.o HN.o (by omega) HO1.o HOUT.o ho3 (by rw[<-HW2.o];exact hgr3) (by rw[<-HW2.o];simpa [hsz2,Value.ownBlock] using hloc));obtain⟨a3,c3,rfl,_⟩:=ι ho3;clear ho3 hgr3 hloc;go_wp2;go_roundw
    (case rel=>exact⟨k+1,1,by omega,by go_num,HB3⟩);case measure=>simp[intOf];omega
   ·(have hglt:=hlo g rfl);(have HO:=H_ hown;have HREST:=H_ (Own.rest hown hm'.symm c hks);have HFR:=H_ (zhm hown hm'.symm (by simp));have HM':=H_ hm';clear hm' hown hlo hg2 hstk hle' HR;have⟨q1,q2,q3,q4,q5,q6⟩:(0:Int)<=m/\(m:Int)<=(m+c:Nat)/\(m:Int)<=cap2/\(m:Int)<=(m:Int)+c/\((m:Int)+c).toNat=m+c/\((m:Int)+c-m).toNat=c:=by omega);(have⟨q7,q8,q9,q10⟩:(m:Int)+c-c=m/\((m+c:Nat):Int)-c=m/\(m:Int)+c<=cap2/\m<=cap2:=by omega);unfold maxLen at hg4;have q11:m+c-m=c:=by omega
    (have HLT:=H_ (And.intro hg1 hglt);have HPT:=H_ (λ(u:Value) (hu:u∈ks)=>hptr u (by simp[hu]));clear hptr hks hys hxl hst;have hcases:m=cap2\/¬cap2=m:=by omega);rcases hcases with rfl|hcm2
    all_goals (
     (have HR2:=HREST.o)
     first | rw[l_ rfl,ax_] at HR2 | rw[j_ hcm2] at HR2
     (have HREST2:=H_ HR2;clear HR2;go_wp2_with (first | (go_at_call 121;refine(HTK.o _).mono ?_;rintro e w' ⟨rfl,rfl⟩) | (at_builtin;go_loud (refine Ο rfl _ _ 186 rfl 139 (.pointer none) 1 8 underlying186 zfg rfl (by decide) (by decide) rfl (Ξ 1 wr wr 139 wr) rfl HREST2.o HPT.o ?c1 ?c2 ?_))));case c1=>omega
     case c2=>omega
     all_goals (
      intro v1 w1 ho1 _ hout1 _;obtain⟨a1,c1,rfl,_⟩:=ι ho1;have HO1:=H_ ho1;have HOUT:=H_ hout1;have hs1:=hout1.size;have⟨w2,hw2⟩:=xa_ w1 #[.int .i64 s,.slice a1 c c1] 188;have HFR2:=H_ ((HFR.o.outside hout1 (.inl (le_ _))).alloc (.cells #[.int .i64 s,.slice a1 c c1] 188));rw[<-hw2]at HFR2;have hsz2:w2=w1.heap.size+1:=by rw[hw2];simp
      (have HW2:=H_ hw2;clear ho1 hout1 hw2;go_wp2_with (first | rw[<-HW2.o] | (at_builtin;go_loud (refine za9 w2 rfl _ _ 186 rfl 139 (.pointer none) 1 8 underlying186 zfg rfl (by decide) (by decide) rfl HFR2.o 1 [.pointer (some ⟨w1,0,none⟩)] (by rw[hsz2];rfl) rfl (by simp[Value.oneCell']) rfl ?c1 ?c2 ?_))));case c1=>omega
      case c2=>omega
      intro v3 w3 ho3 hgr3 hloc _;have HB3:=H_ (zkg (k:=k) (e:=e) (row:=some g) HK.o hsz (λx hx=>by injection hx with hx;subst hx;exact HLT.o) HS.o HP.o HCK.o HN.o (by omega) HO1.o HOUT.o ho3 (by rw[<-HW2.o];exact hgr3) (by rw[<-HW2.o];simpa [hsz2,Value.ownBlock] using hloc));obtain⟨a3,c3,rfl,_⟩:=ι ho3;clear ho3 hgr3 hloc;go_wp2;go_roundw
      (case rel=>exact⟨k+1,m+1,by omega,by go_num,HB3⟩);case measure=>simp[intOf];omega))
  ·obtain rfl:k=e.length:=by omega
   obtain⟨xs,st,hown,hbel,hrun,hstk,hnk⟩:=HR.o;rw[F_,HT.o]at hrun;injection hrun with hrun;subst hrun;have hxl:xs.length=1:=by have:=hstk.length;simpa using this
   obtain⟨p,rfl⟩:∃ p,xs=[p]:=by
    match xs,hxl with
    | [p],_=>exact⟨p,rfl⟩
   obtain rfl:n=1:=by have:=hown.1.1;simpa using this.symm
   have hnode:RT w none wr t p:=zdn ⟨le_ _,λi _ h1 h2=>⟨rfl,h1,by simp⟩⟩ hstk.1;obtain⟨a3,c3,rfl,h1,h2,_,h3⟩:=ι hown;obtain⟨g,rfl,_,_⟩:=h3 (by omega)
   have hck:wr.cell? (p_ g 0)=some p:=by
    (obtain⟨_,_,e1,_,_,_,_,h6⟩:=hown.sl;obtain⟨b,off,f1,_,_,_,f2⟩:=h6 0 (by simp);injection e1 with e1;subst e1;injection f1 with f1;injection f1 with f1 f1';subst f1 f1');simpa using f2
   obtain⟨pa,hpa⟩:=hnode.isPtr;have HQ:=H_ (And.intro hbel hnode);clear hown hstk hnode HR hbel;subst hpa;go_wp2;go_ret;exact η.mk _ rfl HQ.o
theorem KT.kids_size {k:KT}(h:k∈t.kids):k.size<t.size:=by
 cases t with
 | leaf n=>cases h
 | star t=>simp only[KT.kids,b_] at h;subst h;simp[KT.size]
 | bin q a b=>
  simp only[KT.kids,z_,bv_,bf_]at h;rcases h with rfl|rfl<;>simp[KT.size]<;>omega
def zip:=@KT.kids_size
theorem KT.kids_len(t:KT):t.kids.length<=2:=by cases t<;>simp[KT.kids]
def zaw:List KT->Nat->List Int
 | _,0=>[]
 | [],_+1=>[]
 | t :: r,k+1=>t.post++zaw r k
theorem zmk:∀ (ks:List KT) (k:Nat) (h:k<ks.length),zaw ks (k+1)=zaw ks k++ks[k].post
 | [],k,h=>by cases h
 | t :: r,0,h=>by simp[zaw]
 | t :: r,k+1,h=>by
  have hk:k<r.length:=by simpa using h
  have ih:=zmk r k hk;rw[zaw,ih,zaw,M_];rfl
theorem znq(ks:List KT):zaw ks 0=[]:=by cases ks<;>rfl
theorem zrj(t:KT):t.post=zaw t.kids t.kids.length++[t.root]:=by
 cases t<;>simp[KT.post,KT.kids,KT.root,zaw]
theorem zpd(t:KT)(k:Nat):(zaw t.kids k).length<=t.size:=by
 cases t with
 | leaf n=>cases k<;>simp[KT.kids,zaw]
 | star t=>match k with
  | 0=>simp[KT.kids,zaw]
  | 1=>simp[KT.kids,zaw,KT.size,t.post_length]
  | k+2=>simp[KT.kids,zaw,KT.size,t.post_length]
 | bin q a b=>match k with
  | 0=>simp[KT.kids,zaw]
  | 1=>simp[KT.kids,zaw,KT.size,a.post_length];omega
  | 2=>simp[KT.kids,zaw,KT.size,a.post_length,b.post_length]
  | k+3=>simp[KT.kids,zaw,KT.size,a.post_length,b.post_length]
def zmj(t:KT):Prop:=∀ (lo:Nat) (p:Value) (w:World),RT lo none w t p->t.size<=100 ->
 Calls prog 195 #[p] w (η λv w'=>Below w w w'/\γ w w' 3 w' v t.post)
theorem zlz(t:KT)(ih:∀ k∈t.kids,zmj k):zmj t:=by
 intro lo p w hp hsz;obtain⟨ps,⟨b,kv,rfl,_,_,hblk,a,cap,rfl,hpc,hcm,hkid⟩,hstk⟩:=hp.node;have hpl:=hstk.length;have HS:=H_ hstk;have HIH:=H_ ih;have HKD:=H_ hkid;have hkl:=t.kids_len;have HKP:=H_ (zpd t);obtain⟨c0,c1⟩:=hblk.c2;have hbs:=hblk.lt;have HP:Q_ (t.post=zaw t.kids t.kids.length++[t.root]):=H_ (zrj t);have HSZ:=H_ (λk (h:k∈t.kids)=>x_ (b9_ (zip h)) hsz);have⟨ks,hks⟩:=ex_ t.kids;rw[<-hks]at HS HIH HKP HP hpl hkl HSZ;clear hp hstk ih hkid hks;unfold maxLen at hcm;rw[hpl]at hpc c1
 go_enter func195,ntmps195
 go_wp2;go_loopw [3,11] (λv i wr=>∃ (k:Nat),k<=ks.length/\i=.int .i64 k/\Q_ (γ w wr 3 wr v (zaw ks k)/\Below w w wr)) (λ_ i _=>ks.length-(intOf i).toNat)
 case atStart=>exact⟨0,by omega,rfl,H_ ⟨by rw[znq];exact Ξ _ _ _ _ _,B_ _ _⟩⟩
 case round=>
  obtain⟨k,hk,rfl,HR⟩:=hrel;obtain⟨va,vc,rfl,hvc,hvm,_⟩:=ι HR.o.1;have hb:=HR.o.2;by_cases hlt:k<ks.length
  ·have hkp:k<ps.length:=by omega
   obtain⟨g,off,rfl,hg1,_,hg2,hg3⟩:=HKD.o k hkp;have⟨q,hq⟩:=ex_ (ps[k]);rw[<-hq]at hg3;have hck:wr.cell? (p_ g (off+k))=some q:=by rw[hb.cell (p:=p_ g (off+k)) hg2];exact hg3
   have hRT:=(HS.o.get k hkp hlt).below hb;rw[<-hq]at hRT;obtain⟨qa,rfl⟩:=hRT.isPtr;have HC:=H_ (HIH.o ks[k] (k_ hlt) lo _ wr hRT (HSZ.o _ (k_ hlt)));have HN:=H_ (zmk ks k hlt);have HL:=H_ (HKP.o (k+1));have HB:=H_ hb;have HO:=H_ HR.o.1;clear hg3 hRT hb HR hq;go_wp2_with fail
   refine HC.o.mono ?_;rintro e w1 ⟨v1,rfl,hb1,ho1⟩;have H1:=H_ ho1;replace HO:=H_ (HO.o.below hb1 (le_ _));replace HB:=HB.ts hb1;have hs1:=hb1.size;obtain⟨xa,xc,rfl,_⟩:=ι ho1;have hlen:=HL.o;rw[HN.o,i_]at hlen;clear hb1 ho1 HC;go_wp2_with (at_builtin;go_loud (refine Ο rfl _ _ 22 rfl 3 (0:Int) 1 8 underlying22 Δ rfl (by decide) (by decide) rfl HO.o rfl H1.o.sl (Μ _) ?c1 ?c2 ?_))
   case c1=>omega
   case c2=>have:=HB.o.size;omega
   intro v2 w2 ho2 _ hout2 _
   have H2:Q_ (γ w w2 3 w2 v2 (zaw ks (k+1))):=by
    rw[HN.o];refine H_ ?_;unfold γ;rw[i_,zan];exact ho2
   obtain⟨ya,yc,rfl,_⟩:=ι ho2;replace HB:=H_ (δ HB.o hout2 (le_ _) HB.o.size);clear ho2 hout2;go_wp2;go_roundw
   case rel=>exact⟨k+1,by omega,by go_num,H_ ⟨H2.o,HB.o⟩⟩
   case measure=>simp[intOf];omega
  ·obtain rfl:k=ks.length:=by omega
   have HO:=HR.o.1;have hcl:=HKP.o ks.length;generalize zaw ks ks.length=xs at HO hcl HP ⊢;have HOO:=H_ HO;have HB:=H_ hb;have hc0:wr.cell? (p_ b 0)=some (.int .i64 t.root):=by rw[hb.cell (p:=p_ b 0) hbs];exact c0
   clear HO hb HR c0 c1;go_wp2_with (at_builtin;go_loud (refine zbw wr rfl _ _ 22 rfl 3 (0:Int) 1 8 underlying22 Δ rfl (by decide) (by decide) rfl HOO.o 1 (ints [t.root]) rfl rfl (Μ _) rfl ?c1 ?c2 ?_))
   case c1=>omega
   case c2=>have:=HB.o.size;omega
   intro v2 w2 ho2 hout2 _
   have H2:Q_ (γ w w2 3 w2 v2 t.post):=by
    rw[HP.o];refine H_ ?_;unfold γ;rw[i_,zan];exact ho2
   obtain⟨ya,yc,rfl,_⟩:=ι ho2;replace HB:=H_ (δ HB.o hout2 (le_ _) HB.o.size);clear ho2 hout2;go_wp2;go_ret;exact η.mk _ rfl ⟨HB.o,H2.o⟩
theorem zjt:∀ t:KT,zmj t
 | .leaf n=>zlz _ (λk h=>by cases h)
 | .star t=>by
  have ha:=zjt t
  exact zlz _ (λk h=>by
   simp only[KT.kids,b_]at h;subst h;exact ha)
 | .bin q a b=>by
  have ha:=zjt a;have hb:=zjt b
  exact zlz _ (λk h=>by
   simp only[KT.kids,z_,bv_,bf_]at h;rcases h with rfl|rfl
   ·exact ha
   ·exact hb)
section
open Go.Maps
open Go.ChangeMaps (setBlock)
theorem zf9:Keyed prog 3:=int_keyed underlying3
theorem zv5(w:World):(zeroValue 22).run prog w=.ok (.slice none 0 0) w:=by kernel_rfl
def zbp(bm:Nat)(w:World)(V:List (List Int)):Prop:=
 ∃ es clock,w.heap[bm]?=some (.map es clock)/\(∀ e∈es.toList,∃ k:Nat,k<3/\e.key=.int .i64 (-1-(k:Int))/\V.getD k []≠[]/\SlI (bm+1) w w e.val (V.getD k [])) /\
  ∀ k,k<3->V.getD k []≠[]->∃ e∈es.toList,e.key=.int .i64 (-1-(k:Int))
theorem zbp.lt {V:List (List Int)}(h:zbp bm w V):bm<w:=by
 obtain⟨es,cl,h1,_⟩:=h;exact(v_.1 h1).1
theorem zbp.below {V:List (List Int)}(h:zbp bm w V)(hb:Below w w w'):zbp bm w' V:=by
 have hlt:=h.lt;obtain⟨es,cl,h1,h2,h3⟩:=h;refine⟨es,cl,(hb.block bm hlt).trans h1,λe he=>?_,h3⟩;obtain⟨k,g1,g2,g3,g4⟩:=h2 e he;exact⟨k,g1,g2,g3,(g4.below hb (le_ _)).wide (le_ _) hb.size⟩
theorem zbp.made(w:World):zbp w (w.alloc (.map #[] 0)) [[],[],[]]:=
 ⟨#[],0,bu_ w _,λe he=>by simp at he,λk hk h=>absurd (by match k,hk with | 0,_=>rfl | 1,_=>rfl | 2,_=>rfl) h⟩
theorem zik(k:Nat)(hk:k<3):keyOf prog 3 (.int .i64 (-1-(k:Int)))=some (.int .i64 (-1-(k:Int))):=
 keyOf_int_mk underlying3 (cv_ ⟨by omega,by omega⟩)
theorem zbp.find {V:List (List Int)} {es:Array MapEntry}(hk:k<3)
  (h2:∀ e∈es.toList,∃ k:Nat,k<3/\e.key=.int .i64 (-1-(k:Int))/\V.getD k []≠[]/\SlI (bm+1) w w e.val (V.getD k [])) (h3:∀ k,k<3->V.getD k []≠[]->∃ e∈es.toList,e.key=.int .i64 (-1-(k:Int))) :
  ((Instr.findKey 3 (.int .i64 (-1-(k:Int))) es.toList).run prog w=.ok none w/\V.getD k []=[]) \/
  ∃ j v,(Instr.findKey 3 (.int .i64 (-1-(k:Int))) es.toList).run prog w=.ok (some (j,v)) w/\V.getD k []≠[]/\SlI (bm+1) w w v (V.getD k []):=by
 have hkeys:∀ e∈es.toList,∃ l,keyOf prog 3 e.key=some l:=λe he=>by
  obtain⟨k',g1,g2,_⟩:=h2 e he;exact⟨_,by rw[g2];exact zik k' g1⟩
 rcases zf9.find w (zik k hk) es.toList hkeys with⟨f1,f2⟩|⟨j,e,f1,f2,f3⟩
 ·refine .inl ⟨f1,?_⟩
  by_cases hv:V.getD k []=[]
  ·exact hv
  ·obtain⟨e,he,hke⟩:=h3 k hk hv
   exact absurd hke (f2 e he)
 ·obtain⟨k',g1,g2,g3,g4⟩:=h2 e (cc_ f2)
  have hkk:k'=k:=by
   have f4:Value.int .i64 (-1-(k':Int))=Value.int .i64 (-1-(k:Int)):=g2.symm.trans f3;have f5:=(Value.int.inj f4).2;omega
  subst hkk;exact .inr ⟨j,e.val,f1,g3,g4⟩
theorem zbp.look {V:List (List Int)}(h:zbp bm w V)(k:Nat)(hk:k<3):
  ((Instr.lookup 175 (.map (some bm)) (.int .i64 (-1-(k:Int))) true).run prog w=.ok (.tuple #[(),.bool false]) w/\V.getD k []=[]) \/
  ∃ v,(Instr.lookup 175 (.map (some bm)) (.int .i64 (-1-(k:Int))) true).run prog w=.ok (.tuple #[v,.bool true]) w/\V.getD k []≠[]/\SlI (bm+1) w w v (V.getD k []):=by
 obtain⟨es,cl,h1,h2,h3⟩:=h;have hc:=zf9.check w es.isEmpty (zik k hk);rcases zbp.find hk h2 h3 with⟨f1,f2⟩|⟨j,v,f1,f2,f3⟩
 ·exact .inl ⟨by simp[Instr.lookup,cl_ underlying175,bo_ h1,hc,f1,zv5 w,Result.andThen],f2⟩
 ·exact .inr ⟨v,by simp[Instr.lookup,cl_ underlying175,bo_ h1,hc,f1,Result.andThen],f2,f3⟩
theorem zbp.store {V:List (List Int)}(h:zbp bm w V)(hV:V.length=3)(k:Nat)(hk:k<3)(h0:V.getD k []=[])(v:Value)(xs:List Int)(hx:xs≠[])(hs:SlI (bm+1) w w v xs):
  ∃ w',(Instr.mapUpdate 175 (.map (some bm)) (.int .i64 (-1-(k:Int))) v).run prog w=.ok () w'/\zbp bm w' (V.set k xs)/\β bm (bm+1) w w':=by
 obtain⟨es,cl,h1,h2,h3⟩:=h;have hc:=zf9.check w false (zik k hk);rcases zbp.find hk h2 h3 with⟨f1,_⟩|⟨j,v,f1,f2,_⟩
 ·have hlt:=(v_.1 h1).1
  have hO:β bm (bm+1) w (setBlock w bm (.map (es.push { key:=.int .i64 (-1-(k:Int)),val:=v,born:=cl }) (cl+1))):=by
   refine⟨rfl,rfl,rfl,by simp[setBlock],λi _ hi=>?_⟩
   show (w.heap.setIfInBounds bm _)[i]?=w.heap[i]?
   rw[bm_,j_ (by omega)]
  refine⟨setBlock w bm (.map (es.push { key:=.int .i64 (-1-(k:Int)),val:=v,born:=cl }) (cl+1)),?_,⟨es.push { key:=.int .i64 (-1-(k:Int)),val:=v,born:=cl },cl+1,?_,?_,?_⟩,hO⟩
  ·simp[Instr.mapUpdate,cl_ underlying175,bo_ h1,hc,f1,MapKept.run_setObj_map _ h1,Result.andThen,setBlock]
  ·show (w.heap.setIfInBounds bm _)[bm]?=_
   rw[bm_,l_ rfl,l_ hlt]
  ·intro e he
   rw[de_,u_,b_]at he;have hsz:(setBlock w bm (.map (es.push { key:=.int .i64 (-1-(k:Int)),val:=v,born:=cl }) (cl+1))).heap.size=w.heap.size:=by simp[setBlock]
   rcases he with he|rfl
   ·(obtain⟨k',g1,g2,g3,g4⟩:=h2 e he);(have hne:k≠k':=by intro h;subst h;exact g3 h0);(have hget:(V.set k xs).getD k' []=V.getD k' []:=by simp[List.getD,ao_ hne]);refine⟨k',g1,g2,by rw[hget];exact g3,?_⟩;rw[hget,hsz];exact g4.outside hO (.inr (le_ _))
   ·(have hget:(V.set k xs).getD k []=xs:=by simp[List.getD,hV,hk]);refine⟨k,hk,rfl,by rw[hget];exact hx,?_⟩;rw[hget,hsz];exact hs.outside hO (.inr (le_ _))
  ·intro k' hk' hv
   by_cases hkk:k=k'
   ·subst hkk
    exact⟨_,by rw[de_];exact List.mem_append_right _ (b_.2 rfl),rfl⟩
   ·(have hget:(V.set k xs).getD k' []=V.getD k' []:=by simp[List.getD,ao_ hkk]);rw[hget]at hv;obtain⟨e,he,hke⟩:=h3 k' hk' hv;exact⟨e,by rw[de_];exact List.mem_append_left _ he,hke⟩
 ·exact absurd h0 f2
end
def zdo:List KT->List KT->List (List Int)->Option (List (List Int))
 | [],[],V=>some V
 | p :: ps,t :: ts,V=>(φ p t V).bind (zdo ps ts)
 | _,_,_=>none
theorem zfc(q:Bool):KT.op q=19\/KT.op q=20:=by cases q<;>simp[KT.op]
theorem zuc(hp:p.ok (-3)=true)(ht:t.ok 0=true)(h0:0<=p.root)(V:List (List Int)):φ p t V=if p.root=t.root then zdo p.kids t.kids V else none:=by
 cases p with
 | leaf n=>
  simp only[KT.root]at h0;simp only[KT.ok,d_,m_]at hp;have hn:¬n<0:=by omega
  rw[φ,j_ hn];by_cases h:t.root=n
  ·rw[l_ h,l_ (show (KT.leaf n).root=t.root from h.symm)]
   cases t with
   | leaf m=>rfl
   | star _=>simp only[KT.root] at h;omega
   | bin r _ _=>have:=zfc r;simp only[KT.root] at h;omega
  ·rw[j_ h,j_ (show ¬(KT.leaf n).root=t.root from λe=>h e.symm)]
 | star p=>
  cases t with
  | leaf m=>
   have hne:¬(KT.star p).root=(KT.leaf m).root:=by simp only[KT.ok,d_,m_] at ht;simp only[KT.root];omega
   rw[j_ hne];rfl
  | star t=>rw[l_ (show (KT.star p).root=(KT.star t).root from rfl)];simp only[φ,KT.kids,zdo];cases φ p t V<;>rfl
  | bin r c d=>
   have hne:¬(KT.star p).root=(KT.bin r c d).root:=by have:=zfc r;simp only[KT.root];omega
   rw[j_ hne];rfl
 | bin q a b=>
  cases t with
  | leaf m=>
   have hne:¬(KT.bin q a b).root=(KT.leaf m).root:=by have:=zfc q;simp only[KT.ok,d_,m_] at ht;simp only[KT.root];omega
   rw[j_ hne];rfl
  | star t=>
   have hne:¬(KT.bin q a b).root=(KT.star t).root:=by have:=zfc q;simp only[KT.root];omega
   rw[j_ hne];rfl
  | bin r c d=>
   by_cases h:q=r
   ·subst h
    rw[l_ (show (KT.bin q a b).root=(KT.bin q c d).root from rfl),zi4,l_ rfl];simp only[KT.kids,zdo];cases φ a c V with
    | none=>rfl
    | some V1=>
     simp only[T_];cases φ b d V1<;>rfl
   ·(have hne:¬(KT.bin q a b).root=(KT.bin r c d).root:=by cases q<;>cases r<;>simp[KT.op,KT.root] at h ⊢);rw[j_ hne,zi4,j_ h]
theorem z04 {ps ts:List KT}(k:Nat)(h1:k<ps.length)(h2:k<ts.length)(V:List (List Int)):zdo (ps.drop k) (ts.drop k) V=(φ ps[k] ts[k] V).bind (zdo (ps.drop (k+1)) (ts.drop (k+1))):=by
 rw[q_ h1,q_ h2,zdo]
theorem zwr {ps ts:List KT}(k:Nat)(h1:ps.length<=k)(h2:ts.length<=k)(V:List (List Int)):zdo (ps.drop k) (ts.drop k) V=some V:=by
 rw[ah_ h1,ah_ h2,zdo]
theorem zwe(hp:p.ok (-3)=true)(ht:t.ok 0=true)(h:p.root=t.root)(h0:0<=p.root):p.kids.length=t.kids.length:=by
 cases p with
 | leaf n=>
  simp only[KT.ok,d_,m_]at hp;simp only[KT.root]at h;cases t with
  | leaf m=>rfl
  | star _=>simp only at h;omega
  | bin r _ _=>have:=zfc r;simp only at h;omega
 | star p=>
  simp only[KT.root]at h;cases t with
  | leaf m=>simp only[KT.ok,d_,m_] at ht;simp only at h;omega
  | star _=>rfl
  | bin r _ _=>have:=zfc r;simp only at h;omega
 | bin q a b=>
  have:=zfc q;simp only[KT.root]at h;cases t with
  | leaf m=>simp only[KT.ok,d_,m_] at ht;simp only at h;omega
  | star _=>simp only at h;omega
  | bin r _ _=>rfl
theorem zpb {lo:Int} {k:KT}(h:t.ok lo=true)(hk:k∈t.kids):k.ok lo=true:=by
 cases t with
 | leaf n=>cases hk
 | star t=>simp only[KT.kids,b_] at hk;subst hk;exact h
 | bin q a b=>
  simp only[KT.ok,d_]at h;simp only[KT.kids,z_,bv_,bf_]at hk;rcases hk with rfl|rfl
  ·exact h.1
  ·exact h.2
def MatI(bm:Nat)(w:World)(r:Option (List (List Int)))(b:Bool)(w':World):Prop:=
 b=r.isSome/\β bm (bm+1) w w'/\∀ V',r=some V'->zbp bm w' V'
def zjq(p:KT):Prop:=∀ (t:KT) (V:List (List Int)) (w:World) (lo bm:Nat) (ps pt:Value),p.ok (-3)=true->p.size<=100->t.ok 0=true->t.size<=40->GV V->RT lo none w p ps->RT lo none w t pt->bm<lo->zbp bm w V ->
 Calls prog 165 #[ps,pt,.map (some bm)] w (zbl (MatI bm w (φ p t V)))
theorem β.same(h:Below w w w'):β lo hi w w':=β.of_below h (le_ _)
theorem zdv {ys:List Int}:eqL xs ys=decide (xs=ys):=by simp[eqL,Bool.beq_eq_decide_eq]
theorem zv8(n:Int)(hn:n<0):zjq (.leaf n):=by
 intro t V w lo bm ps pt hp _ ht hts hV hps hpt hbm hM;simp only[KT.ok,d_,m_]at hp;obtain⟨k,hk3,hnk⟩:∃ k:Nat,k<3/\n=-1-(k:Int):=⟨(-1-n).toNat,by omega,by omega⟩;subst hnk;have hvk:za1 (-1-(k:Int))=k:=by unfold za1;omega
 obtain⟨qs,⟨b,kv,rfl,_,_,hblk,a,cap,rfl,hpc,hcm,_⟩,_⟩:=hps.node;have hbs:=hblk.lt;have HPB:=H_ hblk;have HST:=H_ (zjt t lo pt w hpt (by omega));obtain⟨pa,rfl⟩:=hpt.isPtr;have HM:=H_ hM;have HV:=H_ hV
 have HR:Q_ (φ (.leaf (-1-(k:Int))) t V=if V.getD k []=[] then some (V.set k t.post) else if V.getD k []=t.post then some V else none):=by
  refine H_ ?_;rw[φ,l_ (by omega),hvk]
 have c0:=hblk.cell 0;simp only[KT.root]at c0;have hbw:=hM.lt;clear hp hM hV hps hpt hblk hvk
 go_enter func165,ntmps165
 go_wp2_with fail
 refine HST.o.mono ?_;rintro e w1 ⟨v1,rfl,hb1,ho1⟩;have c0':w1.cell? (p_ b 0)=some (.int .i64 (-1-(k:Int))):=by rw[hb1.cell (p:=p_ b 0) hbs];exact c0
 have hs1:=hb1.size;replace HM:=H_ (HM.o.below hb1);have HO:=H_ ho1;have HB:=H_ hb1;obtain⟨xa,xc,rfl,_⟩:=ι ho1;have hmlt:=hb1;clear c0 HST ho1 hmlt hb1;rcases HM.o.look k hk3 with⟨hl,h0⟩|⟨v0,hl,h0,hs0⟩
 ·obtain⟨w2,hup,hM2,hO2⟩:=HM.o.store HV.o.len k hk3 h0 (.slice xa t.post xc) t.post t.post_ne (HO.o.sl.wide (by omega) (le_ _))
  have HF:=H_ (And.intro hM2 (β.trans (β.same (lo:=bm) (hi:=bm+1) HB.o) hO2));clear hM2 hO2;go_wp2;go_ret;refine zbl.mk true rfl ⟨by rw[HR.o,l_ h0];rfl,HF.o.2,λV' h=>?_⟩;rw[HR.o,l_ h0]at h;injection h with h;subst h;exact HF.o.1
 ·generalize V.getD k []=Y at HR hl h0 hs0
  obtain⟨ya,yc,rfl,_⟩:=τ hs0;have HS0:=H_ hs0;have H0:=H_ h0;clear hs0 h0;go_wp2_with fail
  refine(zg7 _ _ _ _ _ _ Y t.post w1 HS0.o HO.o.sl).mono ?_;rintro e w2 ⟨rfl,hb2⟩;have HF:=H_ (And.intro (HM.o.below hb2) (β.same (lo:=bm) (hi:=bm+1) (HB.o.trans (hb2.mono HB.o.size))));clear hb2;go_wp2;go_ret;refine zbl.mk _ rfl ⟨?_,HF.o.2,λV' h=>?_⟩
  ·rw[HR.o,j_ H0.o]
   by_cases he:Y=t.post
   ·rw[l_ he,zdv,bl_ he];rfl
   ·rw[j_ he,zdv,dn_ he];rfl
  ·rw[HR.o,j_ H0.o]at h
   split at h
   ·injection h with h
    subst h;exact HF.o.1
   ·cases h
theorem zmc(p:KT)(h0:0<=p.root)(ih:∀ k∈p.kids,zjq k):zjq p:=by
 intro t V w lo bm ps pt hp hpz ht hts hV hps hpt hbm hM;have HMT:=H_ (zuc hp ht h0 V);have HKL:=H_ (zwe hp ht);have HPO:=H_ (λk (h:k∈p.kids)=>And.intro (zpb hp h) (x_ (b9_ (zip h)) hpz));have HTO:=H_ (λk (h:k∈t.kids)=>And.intro (zpb ht h) (x_ (b9_ (zip h)) hts));have HIH:=H_ ih;obtain⟨qs,⟨b,kv,rfl,hlb,_,hblk,a,cap,rfl,hpc,hcm,hkid⟩,hstk⟩:=hps.node;obtain⟨qs',⟨b',kv',rfl,hlb',_,hblk',a',cap',rfl,hpc',hcm',hkid'⟩,hstk'⟩:=hpt.node;have hbs:=hblk.lt;have hbs':=hblk'.lt;obtain⟨c0,c1⟩:=hblk.c2;have d0:=hblk'.cell 0;have d1:=hblk'.cell 1;have hl:=hstk.length;have hl':=hstk'.length;have HS:=H_ hstk;have HS':=H_ hstk';have HKD:=H_ hkid;have HKD':=H_ hkid';have HM:=H_ hM;have HV:=H_ hV;have hbw:=hM.lt;have hkz:=p.kids_len;unfold maxLen at hcm hcm';have⟨pr,hpr⟩:=ex_ p.root;have⟨tr,htr⟩:=ex_ t.root;rw[<-hpr]at c0 h0 HKL HMT;rw[<-htr]at d0 HKL HMT;have hn0:¬pr<0:=by omega
 clear hp hpz ht hts hV hps hpt hM ih hblk hblk' hstk hstk' hkid hkid' hpr htr;by_cases hr:pr=tr
 ·have hkk:=HKL.o hr h0
  subst hr;have hne:(pr !=pr)=false:=by simp
  have HR:Q_ (φ p t V=zdo p.kids t.kids V):=H_ (by rw[HMT.o,l_ rfl]);have⟨ks,hks⟩:=ex_ p.kids;have⟨ts,hts⟩:=ex_ t.kids;rw[<-hks]at HPO HIH hl HS hkz hkk HR;rw[<-hts]at HTO hl' HS' hkk HR;rw[hl]at c1 hpc;rw[hl',<-hkk]at d1 hpc';clear hks hts HKL HMT h0
  go_enter func165,ntmps165
  go_wp2_with fail
  go_quiet (fail)
  go_wp2;go_loopw [52] (λi wr=>∃ (k:Nat) (V':List (List Int)),k<=ks.length/\i=.int .i64 k/\Q_ (zbp bm wr V'/\GV V'/\β bm (bm+1) w wr/\zdo ks ts V=zdo (ks.drop k) (ts.drop k) V')) (λi _=>ks.length-(intOf i).toNat)
  case atStart=>exact⟨0,V,by omega,rfl,H_ ⟨HM.o.below (S_ (B_ _ _) _),HV.o,β.same (S_ (B_ _ _) _),rfl⟩⟩
  case round=>
   obtain⟨k,V',hk,rfl,HQ⟩:=hrel;have HO:=H_ HQ.o.2.2.1;have hsz:=HO.o.size;by_cases hlt:k<ks.length
   ·(have⟨hlt2,h1q,h2q⟩:k<ts.length/\k<qs.length/\k<qs'.length:=by omega);(obtain⟨g,off,rfl,g1,_,g2,g3⟩:=HKD.o k h1q;obtain⟨g',off',rfl,g1',_,g2',g3'⟩:=HKD'.o k h2q;have⟨q,hq⟩:=ex_ (qs[k]);obtain⟨q',hq'⟩:∃ q',q'=qs'[k]:=⟨_,rfl⟩;rw[<-hq]at g3;rw[<-hq']at g3';have e1:wr.cell? (p_ g (off+k))=some q:=(X_ (w:=w) (a:=p_ g (off+k)) (HO.o.block g g2 (by omega))).trans g3;have e2:wr.cell? (p_ g' (off'+k))=some q':=(X_ (w:=w) (a:=p_ g' (off'+k)) (HO.o.block g' g2' (by omega))).trans g3';have e3:wr.cell? (p_ b' 1)=some (.slice (some ⟨g',off',none⟩) ks cap'):=(X_ (w:=w) (a:=p_ b' 1) (HO.o.block b' hbs' (by omega))).trans d1;have r1:=(HS.o.get k h1q hlt).outside HO.o (by omega);have r2:=(HS'.o.get k h2q hlt2).outside HO.o (by omega);rw[<-hq]at r1;rw[<-hq']at r2;obtain⟨qa,rfl⟩:=r1.isPtr;obtain⟨qa',rfl⟩:=r2.isPtr;have m1:=HPO.o _ (k_ hlt);have m2:=HTO.o _ (k_ hlt2);have HC:=H_ (HIH.o ks[k] (k_ hlt) ts[k] V' wr lo bm _ _ m1.1 m1.2 m2.1 m2.2 HQ.o.2.1 r1 r2 hbm HQ.o.1);have HGV:Q_ (∀ V'',φ ks[k] ts[k] V'=some V''->GV V''):=H_ (λV'' hx=>zgt ks[k] ts[k] V' V'' m2.1 m2.2 HQ.o.2.1 hx);have HST:=H_ (HQ.o.2.2.2.trans (z04 k hlt hlt2 V'));generalize φ ks[k] ts[k] V'=res at HC HGV HST;clear g3 g3' hq hq' r1 r2 m1 m2 HQ;go_wp2_with fail);refine HC.o.mono ?_;rintro e w1 ⟨bb,rfl,rfl,ho,hx⟩;have HO1:=H_ (HO.o.trans ho);clear ho HC;cases res with
    | none=>
     simp only[ap_];go_wp2;go_ret;refine zbl.mk _ rfl ⟨by rw[HR.o,HST.o];rfl,HO1.o,λV'' h=>?_⟩;rw[HR.o,HST.o]at h;cases h
    | some V1=>
     (have HX:=H_ (hx V1 rfl);clear hx;simp only[ak_];go_wp2;go_roundw);(case rel=>exact⟨k+1,V1,by omega,by go_num,H_ ⟨HX.o,HGV.o V1 rfl,HO1.o,HST.o⟩⟩);case measure=>simp[intOf];omega
   ·(obtain rfl:k=ks.length:=by omega);have HF:Q_ (φ p t V=some V'):=H_ (by rw[HR.o,HQ.o.2.2.2];exact zwr _ (le_ _) (by omega) V');go_wp2;go_ret;refine zbl.mk _ rfl ⟨by rw[HF.o];rfl,HO.o,λV'' h=>?_⟩;rw[HF.o]at h;injection h with h;subst h;exact HQ.o.1
 ·have hne:(pr !=tr)=true:=by simpa using hr
  have HR:Q_ (φ p t V=none):=H_ (by rw[HMT.o,j_ hr]);clear hr
  go_enter func165,ntmps165
  go_wp2_with fail
  go_quiet (fail)
  go_wp2;go_ret;refine zbl.mk _ rfl ⟨by rw[HR.o];rfl,β.same (S_ (B_ _ _) _),λV' h=>?_⟩;rw[HR.o]at h;cases h
theorem zje:∀ p:KT,zjq p
 | .leaf n=>by
  by_cases h:n<0
  ·exact zv8 n h
  ·exact zmc (.leaf n) (show 0<=n by omega) (λk h=>by cases h)
 | .star p=>by
  have ha:=zje p
  exact zmc _ (by simp[KT.root]) (λk h=>by
   simp only[KT.kids,b_]at h;subst h;exact ha)
 | .bin q a b=>by
  have ha:=zje a;have hb:=zje b
  exact zmc _ (by have:=zfc q;simp only[KT.root];omega) (λk h=>by
   simp only[KT.kids,z_,bv_,bf_]at h;rcases h with rfl|rfl
   ·exact ha
   ·exact hb)
def zii(P:Value->Value->World->Prop)(e:Ending)(w':World):Prop:=∃ v x,e=.returned (.tuple #[v,x])/\P v x w'
def DoR(w:World)(r:Option (List Int))(v x:Value)(w':World):Prop:=
 Below w w w'/\match r with
  | some out=>x=.nilIface/\γ w w' 3 w' v out
  | none=>v=.slice none 0 0/\∃ g,x=.iface 171 (.pointer (some ⟨g,0,none⟩))/\w.heap.size<=g
theorem DoR.fail {r:Option (List Int)}(hr:r=none)(hb:Below w w w')(hg:w.heap.size<=g):DoR w r () (.iface 171 (.pointer (some ⟨g,0,none⟩))) w':=by
 subst hr;exact⟨hb,rfl,g,rfl,hg⟩
def zhz:=@DoR.fail
abbrev zhx(m:Mv):Value:=.agg #[.int .i64 m.which,.bool m.back,.int .i64 m.at_]
theorem zwl(ve:Value)(e:List Int)(m:Mv)(w:World)(hr:isR m.which=false):
  Calls prog 122 #[ve,zhx m] w (zii (DoR w (Ν e m))):=by
 have HR:=H_ (zs8 (e:=e) hr);have hr':inB m.which 0 20=false:=hr
 go_enter func122,ntmps122
 go_wp2_with (go_at_call 145;refine(zls _ _).mono ?_;rintro e w' ⟨rfl,rfl⟩)
 go_region
 all_goals (
  go_wp2;refine a_ (v:=.tuple #[(),.iface 171 (.pointer (some ⟨w+1,0,none⟩))]) (by simp[results,results122,go_sem]) rfl ⟨_,_,rfl,zhz HR.o (n_ (((B_ _ _).alloc (le_ _) _).alloc (by simp) _)) (by omega)⟩)
theorem zvo(ve:Value)(e:List Int)(m:Mv)(w:World)(hx:RdI w ve e)(hr:isR m.which=true)(ha:inB m.at_ 0 (e.length-1)=false):
  Calls prog 122 #[ve,zhx m] w (zii (DoR w (Ν e m))):=by
 have HR:=H_ (zt0 (e:=e) ha);have hr':inB m.which 0 20=true:=hr;obtain⟨a,cap,rfl,hcap,hcm,_⟩:=hx.open;have hc:m.at_<0\/(0<=m.at_/\(e.length:Int)<=m.at_):=by simp[inB] at ha;omega
 clear hx ha;rcases hc with h1|⟨h1,h2⟩
 all_goals (
  go_enter func122,ntmps122
  go_wp2_with (go_at_call 145;refine(zls _ _).mono ?_;rintro e w' ⟨rfl,rfl⟩)
  go_region
  all_goals (
   go_wp2;refine a_ (v:=.tuple #[(),.iface 171 (.pointer (some ⟨w+1,0,none⟩))]) (by simp[results,results122,go_sem]) rfl ⟨_,_,rfl,zhz HR.o (n_ (((B_ _ _).alloc (le_ _) _).alloc (by simp) _)) (by omega)⟩))
end
theorem ztl {a b:Value} {L R:List Int}(h:zcb lo hi w a b L R)(hb:Below w w w')(hh:hi<=w):RdI w' a L/\RdI w' b R:=by
 obtain⟨m,h1,h2,h3,h4⟩:=h;exact⟨(h3.sl.below hb (by omega)).wide (ai_ _) (x_ (x_ h2 hh) hb.size),(h4.sl.below hb hh).wide (ai_ _) (x_ hh hb.size)⟩
theorem SlI.len' {a:Option Addr}(h:SlI lo hi w (.slice a n c) xs):n=xs.length:=by
 obtain⟨_,_,e,_⟩:=h;injection e
theorem SlI.take {b:Nat}(h:SlI lo hi w (.slice (some ⟨b,off,none⟩) n cap) xs)(j:Nat)(hj:j<=xs.length):SlI lo hi w (.slice (some ⟨b,off,none⟩) j cap) (xs.take j):=by
 have h1:=h.sub 0 j (ai_ _) hj
 simpa using h1
theorem SlI.dropI {b:Nat}(h:SlI lo hi w (.slice (some ⟨b,off,none⟩) n cap) xs)(i:Nat)(hi':i<=xs.length):
  SlI lo hi w (.slice (if cap=i then some ⟨b,off,none⟩ else some ⟨b,off+i,none⟩) (n-i) (cap-i)) (xs.drop i):=by
 have hn:=h.len';subst hn;have hc:xs.length<=cap:=by obtain⟨_,_,e,h1,_⟩:=h;injection e with _ _ e;subst e;exact h1
 have h1:=h.sub i xs.length hi' (le_ _);rw[W_ (by simp)]at h1
 split
 ·rename_i hci
  have h0:xs.length-i=0:=by omega
  have hx0:xs.drop i=[]:=ah_ (by omega);rw[hx0,h0];exact⟨_,_,rfl,ai_ _,by unfold maxLen;omega,rfl,(λh=>by cases h),λk hk=>by simp[ints] at hk⟩
 ·exact h1
theorem zzh {w4 w5 w6 w7:World}(h4:Below w3 w3 w4)(h5:Below w4.drew.heap.size w4.drew w5)(h6:Below w5 w5 w6)(h7:β w3 (w3+1) w6 w7):Below w3 w3 w7:=by
 have hd:w4.drew.heap.size=w4.heap.size:=rfl;have s4:=h4.size;have s5:=h5.size;have s6:=h6.size;exact δ (((h4.drew).trans (h5.mono (by omega))).trans (h6.mono (by omega))) h7 (le_ _) (by omega)
theorem zpc {a b:Value}(h:RdI w a (Ε n true)/\RdI w b (Ε n false))(hx:x=Ε n (!false))(hy:y=Ε n false):RdI w a x/\RdI w b y:=by subst hx hy;exact h
theorem zou {a b:Value}(h:RdI w a (Ε n true)/\RdI w b (Ε n false))(hx:x=Ε n (!true))(hy:y=Ε n true):RdI w b x/\RdI w a y:=by subst hx hy;exact⟨h.2,h.1⟩
theorem zv9(ve:Value)(e:List Int)(n:Nat)(bk:Bool)(k:Nat)(w:World)(hE:zao w)(hx:RdI w ve e)(hn21:n<21)(hlt:k<e.length)(pre rest:List Int)(t p:KT)(q:List Int)(hM:zin e ⟨n,bk,k⟩ k pre rest t p q):
  Calls prog 122 #[ve,.agg #[.int .i64 n,.bool bk,.int .i64 k]] w (zii (DoR w (Ν e ⟨n,bk,k⟩))):=by
 have hr':inB (n:Int) 0 20=true:=by simp[inB];omega
 have⟨w0,hw0⟩:=xa_ w #[.int .i64 n,.bool bk,.int .i64 k] 67;have hb0:Below w w w0:=by rw[hw0];exact(B_ _ _).alloc (le_ _) _
 have hs0:w0=w.heap.size+1:=by rw[hw0];simp
 have K:=H_ (show Blk w (.cells #[.int .i64 n,.bool bk,.int .i64 k] 67) w0 by rw[hw0];exact θ w _);have HB:=H_ hb0;have HE:=H_ (hE.below hb0);have HX:=H_ (hx.below hb0);have HW0:=H_ hw0;have HM:=H_ hM;obtain⟨ea,ecap,rfl,hec,hecm,_⟩:=hx.open;have⟨hk0,hkl,hkn⟩:¬(k:Int)<0/\¬(e.length:Int)<=k/\¬e.length<=k:=by omega
 have hel:=hM.el;have c0:=K.o.cell 0;have c2:=K.o.cell 2;obtain⟨eb,eoff,rfl⟩:=SlI.notNil hx (by omega);clear hx hE hb0 hw0 hM;unfold maxLen at hecm;have hmm:=@run_makeMap prog
 go_enter func122,ntmps122
 go_wp2_with (first | rw[<-HW0.o] | (go_at_call 145;refine(zls _ _).mono ?_;rintro e w' ⟨rfl,rfl⟩))
 refine(z0j n hn21 _ HE.o).mono ?_;rintro e1 w1 ⟨ra,rb,rfl,hb1,hrule⟩;obtain⟨la,ln,lc,rfl⟩:∃ x l c,ra=.slice x l c:=by obtain⟨_,_,_,h3,_⟩:=hrule;obtain⟨x,c,h,_⟩:=ι h3;exact⟨x,_,c,h⟩
 obtain⟨lb,lm,ld,rfl⟩:∃ x l c,rb=.slice x l c:=by obtain⟨_,_,_,_,h3⟩:=hrule;obtain⟨x,c,h,_⟩:=ι h3;exact⟨x,_,c,h⟩
 have⟨wa,hwa⟩:=xa_ w1 #[(),()] 161;have KA:Blk w1 (.cells #[(),()] 161) wa:=by rw[hwa];exact θ w1 _
 have HWA:=H_ hwa;obtain⟨f0,f1⟩:=KA.f2;obtain⟨r0,r1⟩:=KA.c2;have⟨w2,hw2⟩:=x2_ wa w1 (.slice la ln lc) (.slice lb lm ld);have KR:=H_ (show Blk w1 _ w2 by rw[hw2];exact KA.set2 (.slice la ln lc) (.slice lb lm ld));have hba:Below w1 w1 wa:=by rw[hwa];exact(B_ _ _).alloc (le_ _) _
 have hsa:wa=w1.heap.size+1:=by rw[hwa];simp
 have hb2:Below w1 w1 w2:=by rw[hw2];exact δ hba (β.set2 _ _ _ _) (le_ _) (by omega)
 have HW2:=H_ hw2;have hs1:=hb1.size;have hs2:=hb2.size;have HRU:=H_ (hrule.below hb2 (le_ _));have HB2:=H_ ((HB.o.trans (hb1.mono HB.o.size)).trans (hb2.mono (by omega)));have K2:=H_ ((K.o.below hb1 K.o.lt).below hb2 (by have:=K.o.lt;omega));have HX2:=H_ ((HX.o.below hb1).below hb2);have HE2:=H_ ((HE.o.below hb1).below hb2);clear hwa KA hw2 hb2 hba hb1 hrule HE K HB HX c0 c2;go_wp2_with (first | rw[<-HWA.o] | rw[<-HW2.o])
 have⟨q0,q1⟩:=KR.o.c2
 go_quiet (fail)
 have⟨w3,hw3⟩:=ex_ (w2.drewN nq);have hb3:Below w2 w2 w3:=by rw[hw3];exact S_ (B_ _ _) _
 have HW3:=H_ hw3;have hs3:=hb3.size;have HB3:=HB2.tr hb3 (by omega);have K3:=H_ (K2.o.below hb3 (by have:=K2.o.lt;omega));have HX3:=H_ (HX2.o.below hb3);have HRU3:=H_ (ztl HRU.o hb3 (by omega));clear q0 q1 f0 f1 r0 r1 hw3 hb3 K2 HX2 HE2 HB2 HRU KR;have c1:=K3.o.cell 1;have c2:=K3.o.cell 2;rw[<-HW3.o];have HSP:=H_ HM.o.span;have HF:Q_ (p.post=Ε n (!bk)):=H_ HM.o.from_;have HT:Q_ (q=Ε n bk):=H_ HM.o.to_;have hkeq:=HM.o.keq;have htsz:=HM.o.sz;have htpos:=t.size_pos;have hpsz:=HM.o.psz;have hql:=HM.o.ql;cases bk
 all_goals (
  first | have HFT:=H_ (zpc HRU3.o HF.o HT.o) | have HFT:=H_ (zou HRU3.o HF.o HT.o)
  obtain rfl:=HFT.o.1.len';obtain rfl:=HFT.o.2.len';clear HRU3;go_wp2_with fail
  refine(zuk 0 _ _ e k t.size w3 HX3.o (by omega) hlt HSP.o).mono ?_;rintro e1 wx ⟨x1,rfl,hx1,_,_,rfl⟩;obtain rfl:x1=(pre.length:Int):=by omega
  have⟨w4,hw4⟩:=ex_ (w3.alloc (.map #[] 0));have hb4:Below w3 w3 w4:=by rw[hw4];exact(B_ _ _).alloc (le_ _) _
  have hs4:w4=w3.heap.size+1:=by rw[hw4];simp
  have HMV:=H_ (show zbp w3 w4 zcq by rw[hw4];exact zbp.made w3);have HB4:=HB3.tr hb4 (by omega);have K4:=K3.kb hb4;have HX4:=H_ (HX3.o.below hb4);have HFT4:=H_ (And.intro (HFT.o.1.below hb4) (HFT.o.2.below hb4));have HW4:=H_ hw4;have c4:=K4.o.cell 2
  have hbx:eb<w4:=by
   obtain⟨_,_,e',_,h',_⟩:=HX4.o.get 0 (by omega);injection e' with e';injection e' with e1 _;omega
  have HB34:=H_ hb4;clear hw4 hb4 c1 c2 hx1;have z1:IntKind.i64.wrap ((k:Int)+1)=(k:Int)+1:=by simp[IntKind.wrap,IntKind.bits,IntKind.signed];omega
  have⟨z2,z3,z4,z5,z6,z7⟩:(0:Int)<=(k:Int)+1/\(pre.length:Int)<=(k:Int)+1/\(k:Int)+1<=ecap/\((k:Int)+1).toNat=k+1/\pre.length<=k+1/\k+1<=ecap:=by omega
  have⟨z8,z9⟩:((k:Int)+1-pre.length).toNat=t.size/\k+1-pre.length=t.size:=by omega
  go_wp2_with (rw[<-HW4.o])
  have HPT:Q_ (RdI w4 (.slice (some ⟨eb,eoff+pre.length,none⟩) t.size (ecap-pre.length)) t.post):=by
   have h:=HX4.o.sub pre.length (k+1) (by omega) (by omega);rw[z9]at h;have h2:(e.drop pre.length).take t.size=t.post:=by rw[HM.o.eq,M_,b8_,<-t.post_length,ba_]
   rw[h2]at h;exact H_ h
  have hcd:w4.drew.cell? (p_ w 2)=some (.int .i64 k):=c4;have hk0s:w<w4.heap.size:=K4.o.lt;have hdz:w4.drew.heap.size=w4.heap.size:=rfl;have hkbm:w<w3.heap.size:=by omega
  have HD4:=H_ (And.intro (zep HFT4.o.1 (n_ (B_ w4 w4))) (zep HPT.o (n_ (B_ w4 w4))));have HMD:=H_ (HMV.o.below (n_ (B_ w4 w4)));clear c4
  go_region_held3 (λw'=>w'.cell? (p_ w 2)=some (.int .i64 k)) (first | assumption | go_keep) (first
   | (go_at_call_of 132 p;refine(zk6 _ p.post p _ HD4.o.1 (by rw[p.post_length];omega) (zdx (-3) p HM.o.pok [])).mono ?_;rintro e5 w5 ⟨p5,rfl,hb5,hrt5⟩;obtain⟨pa5,rfl⟩:=hrt5.isPtr;(have hz5:=hb5.size);(have hc5:w5.cell? (p_ w 2)=some (.int .i64 k):=(hb5.cell (p:=p_ w 2) (by show w.heap.size<w4.drew.heap.size;exact hk0s)).trans hcd);(have H5:=H_ (And.intro hb5 hrt5));clear hb5 hrt5)
   | (go_at_call_of 132 ecap;refine(zk6 _ t.post t _ (zep HD4.o.2 H5.o.1) (by rw[t.post_length];omega) (zdx 0 t HM.o.ok [])).mono ?_;rintro e6 w6 ⟨p6,rfl,hb6,hrt6⟩;obtain⟨pa6,rfl⟩:=hrt6.isPtr;(have hz6:=hb6.size);(have hc6:w6.cell? (p_ w 2)=some (.int .i64 k):=(hb6.cell (p:=p_ w 2) (by show w<w5.heap.size;omega)).trans hc5);(have H6:=H_ (And.intro hb6 hrt6));clear hb6 hrt6)
   | (go_at_call 165;refine(zje p t zcq w6 w4 w3 _ _ HM.o.pok (by omega) HM.o.ok htsz GV.zero ((H5.o.2.below H6.o.1).lower (by omega)) (H6.o.2.lower (by omega)) (by omega) ((HMD.o.below H5.o.1).below H6.o.1)).mono ?_;rintro e7 w7 ⟨b7,rfl,rfl,ho7,hx7⟩;(have hz7:=ho7.size);(have hc7:w7.cell? (p_ w 2)=some (.int .i64 k):=(X_ (w:=w6) (a:=p_ w 2) (ho7.block w (by omega) (.inl (by omega)))).trans hc6);(have H7:=H_ (And.intro ho7 hx7));clear ho7 hx7))
  have HB37:=H_ (zzh HB34.o H5.o.1 H6.o.1 H7.o.1);have HB7:=HB3.tr HB37.o (by omega);have hs7:=HB7.o.size;have HX7:=H_ (HX3.o.below HB37.o);have K7:=H_ (K3.o.below HB37.o (by omega));have HT7:=H_ (HFT.o.2.below HB37.o);have HMX:=H_ H7.o.2;have c7:=K7.o.cell 2;clear HB34 H5 H6 H7 HMD HD4 HPT HFT4 HMV HX4 K4 HB4 HB37 HX3 K3 HFT HB3 hcd hc5 hc6 hc7 z1 z2 z3 z4 z5 z6 z7 z8 z9 hz5 hz6;cases hres:φ p t zcq with
  | none=>
   have HR:Q_ (Ν e ⟨n,_,k⟩=none):=H_ (by rw[HM.o.mv,hres];rfl);clear hres;simp only[ap_];go_wp2
   go_region
   all_goals (
    go_wp2;refine a_ (v:=.tuple #[(),.iface 171 (.pointer (some ⟨w7,0,none⟩))]) (by simp[results,results122,go_sem]) rfl ⟨_,_,rfl,zhz HR.o (n_ (HB7.o.alloc (by omega) _)) (by omega)⟩)
  | some V=>
   have HR:=H_ (HM.o.mv);rw[hres]at HR;simp only[ak_];have HG:=H_ (zgt p t zcq V HM.o.ok htsz GV.zero hres);have HVAL:=H_ (λx hx=>HM.o.val V x hres hx)
   have hrl:rest.length=e.length-(k+1):=by
    have h:=congrArg List.length HM.o.eq;simp only[i_,t.post_length]at h;omega
   have hrest:e.drop (k+1)=rest:=by
    rw[show k+1=(pre++t.post).length by rw[i_,t.post_length];omega,HM.o.eq,b8_]
   have HRS:=H_ (And.intro hrl hrest);clear hrl hrest;have HMV7:=H_ (HMX.o V hres)
   have HPRE:=H_ (show SlI 0 w7 w7 (.slice (some ⟨eb,eoff,none⟩) pre ecap) pre by
    (have h:=SlI.take HX7.o pre.length (by omega))
    rwa [show e.take pre.length=pre by rw[HM.o.eq,M_,ba_]]at h)
   have⟨y1,y2,y3⟩:(pre.length:Int)<=ecap/\pre.length<=ecap/\pre.length<=40:=by omega
   clear hres HMX;go_wp2_with fail
   refine(zc9 0 w7 _ pre w7 HPRE.o (by omega)).mono ?_;rintro e8 w8 ⟨v8,rfl,hb8,ho8⟩;have hs8:=hb8.size;have HB8:=H_ hb8;have HO8:=H_ ho8;obtain⟨a8,c8,rfl,_⟩:=ι ho8;clear hb8 ho8 c7;have HQL:=H_ HM.o.qlo;go_wp2;go_loopw [11,79] (λv i wr=>∃ (j:Nat) (acc:List Int),j<=q.length/\i=.int .i64 j/\acc.length<=40+40*j/\Q_ (Own 1 w7 wr 3 wr v acc.length (ints acc)/\Below w7 w7 wr/\∃ x,acc=pre++x/\χ q V=(χ (q.drop j) V).map (x++·))) (λ_ i _=>q.length-(intOf i).toNat)
   case atStart=>exact⟨0,pre,by omega,rfl,by omega,H_ ⟨HO8.o,HB8.o,[],by simp,by rw[b5_];cases χ q V<;>simp⟩⟩
   case round=>
    obtain⟨j,acc,hj,rfl,hal,HR2⟩:=hrel;have HO:=H_ HR2.o.1;have HBR:=H_ HR2.o.2.1;obtain⟨x,hx1,hx2⟩:=HR2.o.2.2;have HAX:=H_ hx1;have HF:=H_ hx2;obtain⟨oa,ocap,rfl,_⟩:=ι HO.o;have hszr:=HBR.o.size;have HBW:=HB7.tr HBR.o hs7;have cr2:=(K7.o.below HBR.o K7.o.lt).cell 2;clear hx1 hx2 HR2;by_cases hjl:j<q.length
    ·(obtain⟨tb,toff,rfl,_,_,_,hcq⟩:=(HT7.o.below HBR.o).get j hjl);have⟨s,hs⟩:=ex_ (q[j]);have hst:=zrs q V j hjl;have hslo:=HQL.o j hjl;rw[<-hs]at hcq hst hslo;have HST:=H_ hst;clear hst hs;by_cases h0:0<=s
     ·have HF2:Q_ (χ q V=(χ (q.drop (j+1)) V).map ((x++[s])++·)):=by
       refine H_ ?_;rw[HF.o,HST.o,l_ h0];cases χ (q.drop (j+1)) V<;>simp
      go_wp2_with (at_builtin;go_loud (refine zbw wr rfl _ _ 22 rfl 3 (0:Int) 1 8 underlying22 Δ rfl (by decide) (by decide) rfl HO.o 1 (ints [s]) rfl rfl (Μ _) rfl (by omega) (by omega) ?_))
      intro v9 w9 ho9 hout9 _;have HO9:=H_ ho9;have HB9:=H_ (δ HBR.o hout9 (le_ _) HBR.o.size);clear ho9 hout9;go_wp2;go_roundw
      (case rel=>exact⟨j+1,acc++[s],by omega,by go_num,by simp;omega,H_ ⟨by rw[i_,zan];exact HO9.o,HB9.o,x++[s],by rw[HAX.o,M_],HF2.o⟩⟩);case measure=>simp[intOf];omega
     ·(obtain⟨i,hi3,hsi⟩:∃ i:Nat,i<3/\s=-1-(i:Int):=⟨(-1-s).toNat,by omega,by omega⟩);subst hsi;have hvk:za1 (-1-(i:Int))=i:=by unfold za1;omega
      rw[hvk,j_ h0]at HST;have hbd:=HG.o.bd i;rcases (HMV7.o.below HBR.o).look i hi3 with⟨hl,hv0⟩|⟨v0,hl,hv0,hsv⟩
      ·(have HRN:Q_ (Ν e ⟨n,_,k⟩=none):=H_ (by rw[HR.o,T_,HF.o,HST.o,l_ hv0];rfl));clear hv0 HST;go_wp2
       go_region
       all_goals (
        go_wp2;refine a_ (v:=.tuple #[(),.iface 171 (.pointer (some ⟨wr,0,none⟩))]) (by simp[results,results122,go_sem]) rfl ⟨_,_,rfl,zhz HRN.o (n_ (HBW.o.alloc (by omega) _)) (by omega)⟩)
      ·generalize V.getD i []=Q at HST hbd hv0 hsv hl
       (obtain⟨ya,yc,rfl,_⟩:=τ hsv;have HSV:=H_ hsv)
       have HF2:Q_ (χ q V=(χ (q.drop (j+1)) V).map ((x++Q)++·)):=by
        refine H_ ?_;rw[HF.o,HST.o,j_ hv0];cases χ (q.drop (j+1)) V<;>simp
       clear hsv hv0 HST hvk;go_wp2_with (at_builtin;go_loud (refine Ο rfl _ _ 22 rfl 3 (0:Int) 1 8 underlying22 Δ rfl (by decide) (by decide) rfl HO.o rfl HSV.o (Μ _) (by omega) (by omega) ?_))
       intro v9 w9 ho9 _ hout9 _;have HO9:=H_ ho9;have HB9:=H_ (δ HBR.o hout9 (le_ _) HBR.o.size);clear ho9 hout9;go_wp2;go_roundw
       (case rel=>exact⟨j+1,acc++Q,by omega,by go_num,by simp only[i_];omega,H_ ⟨by rw[i_,zan];exact HO9.o,HB9.o,x++Q,by rw[HAX.o,M_],HF2.o⟩⟩);case measure=>simp[intOf];omega
    ·(obtain rfl:j=q.length:=by omega);(have hFq:χ q V=some x:=by rw[HF.o,zo3 _ _ _ (le_ _)];simp);(obtain⟨_,hv2,_⟩:=HVAL.o x hFq;have HFQ:=H_ hFq;have HTL:=H_ ((HX7.o.below HBR.o).dropI (k+1) (by omega));rw[HRS.o.2]at HTL;have hrl:=HRS.o.1;have hal2:acc.length<=1640:=by rw[HAX.o,i_];omega);(have⟨z1,z2,z3,z4,z5,z6⟩:((k:Int)+1).toNat=k+1/\(0:Int)<=(k:Int)+1/\(k:Int)+1<=e.length/\(k:Int)+1<=ecap/\((e.length:Int)-((k:Int)+1)).toNat=rest.length/\k+1<=e.length:=by omega);(have⟨z7,z8⟩:k+1<=ecap/\e.length-(k+1)=rest.length:=by omega);rw[z8]at HTL;clear hFq hrl;have hcases:ecap=k+1\/¬ecap=k+1:=by omega
     rcases hcases with hcs|hcs
     all_goals (
      (have HT2:=HTL.o)
      first | rw[l_ hcs,hcs,ax_] at HT2 | rw[j_ hcs] at HT2
      (have HT3:=H_ HT2;clear HT2)
      try subst hcs
      go_wp2_with (at_builtin;go_loud (refine Ο rfl _ _ 22 rfl 3 (0:Int) 1 8 underlying22 Δ rfl (by decide) (by decide) rfl HO.o rfl HT3.o (Μ _) (by omega) (by omega) ?_))
      intro v9 w9 ho9 _ hout9 _
      have HO9:Q_ (γ w7 w9 3 w9 v9 (pre++x++rest)):=by
       rw[<-HAX.o];refine H_ ?_;unfold γ;rw[i_,zan];exact ho9
      (have HB9:=H_ (HB7.o.trans ((δ HBR.o hout9 (le_ _) HBR.o.size).mono hs7));have hlen9:(pre++x++rest).length=acc.length+rest.length:=by rw[<-HAX.o,i_]);obtain⟨a9,c9,rfl,_⟩:=ι ho9;have cr9:=(K7.o.below ((δ HBR.o hout9 (le_ _) HBR.o.size)) K7.o.lt).cell 2;have hs9:=hout9.size;have HMV9:=H_ (HR.o);rw[T_,HFQ.o,T_,hlen9]at HMV9;have HL9:=H_ hlen9;clear ho9 hout9 hlen9 cr2;by_cases hbig:acc.length+rest.length<=40
      ·rw[l_ hbig]at HMV9
       go_wp2;refine a_ (v:=.tuple #[.slice a9 (acc.length+rest.length) c9,.nilIface]) (by simp[results,results122,go_sem]) rfl ⟨_,_,rfl,?_⟩;rw[HMV9.o];have h:=HO9.o;unfold γ at h;rw[HL9.o]at h;refine⟨HB9.o,rfl,?_⟩;unfold γ;rw[HL9.o];exact zbh h hs7 (le_ _)
      ·rw[j_ hbig]at HMV9
       go_wp2
       go_region
       all_goals (
        go_wp2;refine a_ (v:=.tuple #[(),.iface 171 (.pointer (some ⟨w9,0,none⟩))]) (by simp[results,results122,go_sem]) rfl ⟨_,_,rfl,zhz HMV9.o (n_ (HB9.o.alloc (by omega) _)) (by omega)⟩)))
theorem zl8(ve:Value)(e:List Int)(m:Mv)(w:World)(hE:zao w)(hx:RdI w ve e)(hv:μ e=true):
  Calls prog 122 #[ve,zhx m] w (zii (DoR w (Ν e m))):=by
 cases hr:isR m.which
 ·exact zwl ve e m w hr
 ·cases ha:inB m.at_ 0 (e.length-1)
  ·exact zvo ve e m w hx hr ha
  ·obtain⟨k,hk,hlt⟩:∃ k:Nat,m.at_=k/\k<e.length:=⟨m.at_.toNat,by simp[inB] at ha;omega,by simp[inB] at ha;omega⟩
   obtain⟨n,hn,hn21⟩:∃ n:Nat,m.which=n/\n<21:=⟨m.which.toNat,by simp[isR,inB] at hr;omega,by simp[isR,inB] at hr;omega⟩;obtain⟨pre,rest,t,p,q,hM⟩:=zlh hv hr hk hlt;obtain⟨wh,bk,at_⟩:=m;subst hk hn;exact zv9 ve e n bk k w hE hx hn21 hlt pre rest t p q hM
end Go.Proofs.YtfnnhimopokpnaaGreatDoor
