/- Lemmas for this seat; no condition. -/
import Derived.Test.YtfnnhimopokpnaaGreatDoorHDAC
namespace Go.Proofs.YtfnnhimopokpnaaGreatDoor
open Go.RowKit Proofs.Tryz
set_option maxRecDepth 100000
set_option maxHeartbeats 0
set_option linter.all false
variable {lo lo' hi n cap off:Nat} {t:KT} {e xs:List Int} {row':Option Nat} {w w':World} {p v:Value} {s:Int} {st st':List KT} {m:Mv}
def zbf(n:Int):Nat:=(-1-n).toNat
def KT.root:KT->Int
 | .leaf n=>n
 | .star _=>21
 | .bin p _ _=>KT.op p
def Α:KT->KT->List (List Int)->Option (List (List Int))
 | .leaf n,t,V=>if n<0 then (if V.getD (zbf n) []=[] then some (V.set (zbf n) t.post) else if V.getD (zbf n) []=t.post then some V else none) else if t.root=n then some V else none
 | .star p,t,V=>match t with | .star t'=>Α p t' V | _=>none
 | .bin q a b,t,V=>match t with | .bin r c d=>if q=r then (Α a c V).bind (Α b d) else none | _=>none
def Γ:List Int->List (List Int)->Option (List Int)
 | [],_=>some []
 | s :: r,V=>if 0<=s then (Γ r V).map (s :: ·) else if V.getD (zbf s) []=[] then none else (Γ r V).map (V.getD (zbf s) []++·)
structure GV(V:List (List Int)):Prop where
 len:V.length=3
 all:∀ i,V.getD i []=[]\/∃ s:KT,s.ok 0=true/\s.post=V.getD i []/\s.size<=40
theorem GV.zero:GV [[],[],[]]:=⟨rfl,λi=>by match i with
 | 0=>exact .inl rfl
 | 1=>exact .inl rfl
 | 2=>exact .inl rfl
 | i+3=>exact .inl (by simp)⟩
theorem GV.bd {V:List (List Int)}(h:GV V)(i:Nat):(V.getD i []).length<=40:=by
 rcases h.all i with h|⟨s,_,h,hs⟩
 ·rw[h];decide
 ·rw[<-h,s.post_length];exact hs
theorem KT.post_ne(t:KT):t.post≠[]:=by
 intro h;have:=congrArg List.length h;rw[t.post_length]at this;have:=t.size_pos;simp at *;omega
theorem GV.set {V:List (List Int)}(h:GV V)(k:Nat)(t:KT)(ht:t.ok 0=true)(hs:t.size<=40):GV (V.set k t.post):=by
 refine⟨by simp[h.len],λi=>?_⟩;by_cases hi:i<V.length
 ·by_cases hk:k=i
  ·subst hk
   exact .inr ⟨t,ht,by simp[List.getD,hi],hs⟩
  ·have:=h.all i
   simp only[List.getD,a6_ hk]at this ⊢;exact this
 ·exact .inl (by simp[List.getD,dl_ (by simp;omega:(V.set k t.post).length<=i)])
theorem zh3:∀ (p t:KT) (V V':List (List Int)),t.ok 0=true->t.size<=40->GV V->Α p t V=some V'->GV V'
 | .leaf n,t,V,V',ht,hs,hV,h=>by
  rw[Α]at h
  split at h
  ·split at h
   ·injection h with h;subst h;exact hV.set _ t ht hs
   ·split at h
    ·injection h with h;subst h;exact hV
    ·cases h
  ·split at h
   ·injection h with h;subst h;exact hV
   ·cases h
 | .star p,t,V,V',ht,hs,hV,h=>by
  cases t with
  | star t'=>simp only[Α] at h;simp only[KT.size] at hs;exact zh3 p t' V V' ht (by omega) hV h
  | leaf _=>simp[Α] at h
  | bin _ _ _=>simp[Α] at h
 | .bin q a b,t,V,V',ht,hs,hV,h=>by
  cases t with
  | bin r c d=>
   simp only[Α]at h;simp only[KT.size]at hs;simp only[KT.ok,j_]at ht
   split at h
   ·rw[M_]at h
    obtain⟨V1,h1,h2⟩:=h;exact zh3 b d V1 V' ht.2 (by omega) (zh3 a c V V1 ht.1 (by omega) hV h1) h2
   ·cases h
  | leaf _=>simp[Α] at h
  | star _=>simp[Α] at h
theorem zhk:∀ (a b:List Int) (V:List (List Int)),Γ (a++b) V=(Γ a V).bind λx=>(Γ b V).map (x++·)
 | [],b,V=>by cases h:Γ b V<;>simp[Γ,h]
 | s :: r,b,V=>by
  simp only[aj_,Γ];rw[zhk r b V]
  split
  ·cases Γ r V<;>cases Γ b V<;>simp
  ·split
   ·rfl
   ·cases Γ r V<;>cases Γ b V<;>simp
theorem zkh(V:List (List Int))(hV:GV V):∀ (p:KT) (out:List Int),p.ok (-3)=true->Γ p.post V=some out->∃ t:KT,t.ok 0=true/\t.post=out
 | .leaf n,out,hp,h=>by
  simp only[KT.ok,j_,t_]at hp;simp only[KT.post,Γ]at h
  split at h
  ·simp at h
   subst h;exact⟨.leaf n,by simp[KT.ok];omega,rfl⟩
  ·split at h
   ·cases h
   ·rename_i hne
    rw[cn_,cx_]at h;injection h with h;rcases hV.all (zbf n) with h'|⟨s,h1,h2,h3⟩
    ·exact absurd h' hne
    ·exact⟨s,h1,by rw[h2,h]⟩
 | .star p,out,hp,h=>by
  simp only[KT.ok]at hp;simp only[KT.post]at h;rw[zhk,M_]at h;obtain⟨x,h1,h2⟩:=h;obtain⟨t,h3,h4⟩:=zkh V hV p x hp h1;simp[Γ]at h2;subst h2;exact⟨.star t,h3,by simp[KT.post,h4]⟩
 | .bin q a b,out,hp,h=>by
  simp only[KT.ok,j_]at hp;simp only[KT.post]at h;rw[zhk,zhk,M_]at h;obtain⟨y,h0,h2⟩:=h;rw[M_]at h0;obtain⟨x,h1,h0⟩:=h0;rw[W_]at h0;obtain⟨z,h5,rfl⟩:=h0;obtain⟨t,h3,h4⟩:=zkh V hV a x hp.1 h1;obtain⟨t',h3',h4'⟩:=zkh V hV b z hp.2 h5;have hq:(0:Int)<=KT.op q:=by cases q<;>simp[KT.op]
  rw[Γ,x_ hq]at h2;simp[Γ]at h2;subst h2;exact⟨.bin q t t',by simp[KT.ok,h3,h3'],by simp[KT.post,h4,h4']⟩
theorem zli(V:List (List Int))(hV:GV V):∀ (p out:List Int),Γ p V=some out->out.length<=40*p.length
 | [],out,h=>by simp[Γ] at h;subst h;simp
 | s :: r,out,h=>by
  simp only[Γ]at h
  split at h
  ·rw[W_]at h
   obtain⟨x,h1,rfl⟩:=h;have:=zli V hV r x h1;simp;omega
  ·split at h
   ·cases h
   ·rw[W_]at h
    obtain⟨x,h1,rfl⟩:=h;have:=zli V hV r x h1;have:=hV.bd (zbf s);simp only[n_,I_];omega
def Τ(e:List Int):KT:=match zar e [] with | some [t]=>t | _=>.leaf 0
theorem zee {lo:Int}(h:t.ok lo=true):Τ t.post=t:=by rw[Τ,zem lo t h]
theorem zsr:∀ n,n<21->∀ l,(Τ (Ν n l)).ok (-3)=true/\(Τ (Ν n l)).post=Ν n l/\(Ν n l).length<=40:=by decide +kernel
theorem z06(hv:ν e=true)(k:Nat)(hk:k<e.length):
  ∃ (pre rest:List Int) (t:KT),e=pre++t.post++rest/\pre.length+t.size=k+1/\t.ok 0=true/\t.size<=40/\zcn (e.take (k+1)).reverse 1=some t.size:=by
 simp only[ν,j_,t_,bu_]at hv;obtain⟨⟨h1,h2⟩,h3⟩:=hv;have he:e=e.take (k+1)++e.drop (k+1):=(a1_ _ _).symm;have h3':=h3;rw[he,zgj,M_]at h3';obtain⟨d,h4,_⟩:=h3';obtain⟨st,h6,h7,h8⟩:=zmu (e.take (k+1)) [] d (by intro t ht;cases ht) h4;have hp:=zl7 _ _ _ h6;simp only[zdm,ad_]at hp;have hlk:(e.take (k+1)).length=k+1:=by simp;omega
 match st,h7,hp with
 | [],_,hp=>
  have hp2:([]:List Int)=e.take (k+1):=hp;rw[<-hp2]at hlk;simp at hlk
 | t :: r,h7,hp=>
  have ht:=h7 t (au_ ..);simp only[zdm]at hp;have hl:(zdm r).length+t.size=k+1:=by rw[<-hlk,<-hp,n_,t.post_length]
  refine⟨zdm r,e.drop (k+1),t,by rw[hp];exact he,hl,ht,by omega,?_⟩;rw[<-hp,bm_,zi5 0 t ht _ _ (by omega)];simp[zkc]
theorem zsg:∀ (e:List Int) (d d':Int),0<=d->zam e d=some d'->0<=d'
 | [],d,d',h0,h=>by simp[zam] at h;omega
 | s :: r,d,d',h0,h=>by
  rw[zam]at h
  split at h
  ·cases h
  ·rename_i hb
   exact zsg r _ d' (by omega) h
theorem zy3 {pre rest:List Int} {t':KT}(ht:t.ok 0=true)(ht':t'.ok 0=true)(hv:ν (pre++t.post++rest)=true):
  ν (pre++t'.post++rest)=decide ((pre++t'.post++rest).length<=40):=by
 simp only[ν,j_,t_,bu_]at hv;obtain⟨⟨h1,h2⟩,h3⟩:=hv;have hpos:=t'.size_pos
 have hd:zam (pre++t'.post++rest) 0=some 1:=by
  rw[zgj,zgj]at h3 ⊢;cases hx:zam pre 0 with
  | none=>rw[hx] at h3;simp at h3
  | some d=>
   rw[hx]at h3;simp only[ab_]at h3 ⊢;have hd0:0<=d:=zsg pre 0 d (Int.le_refl 0) hx;rw[zhr t ht d hd0]at h3;rw[zhr t' ht' d hd0];exact h3
 have hl:1<=(pre++t'.post++rest).length:=by simp[t'.post_length];omega
 rw[ν,hd,b6_ hl];simp
def zgx(lo:Nat)(row:Option Nat)(w:World)(kv:Value)(ps:List Value):Prop:=
 ∃ a cap,kv=.slice a ps cap/\ps.length<=cap/\cap<=maxLen /\
  ∀ i (h:i<ps.length),∃ g off,a=some ⟨g,off,none⟩/\lo<=g/\some g≠row/\g<w.heap.size/\w.cell? (p_ g (off+i))=some ps[i]
def zez(lo:Nat)(row:Option Nat)(w:World)(p:Value)(root:Int)(ps:List Value):Prop:=
 ∃ b kv,p=.pointer (q_ b 0)/\lo<=b/\some b≠row/\Blk b (.cells #[.int .i64 root,kv] 188) w/\zgx lo row w kv ps
def RT(lo:Nat)(row:Option Nat)(w:World):KT->Value->Prop
 | .leaf n,p=>zez lo row w p n []
 | .star t,p=>∃ q,zez lo row w p 21 [q]/\RT lo row w t q
 | .bin o a b,p=>∃ q r,zez lo row w p (KT.op o) [q,r]/\RT lo row w a q/\RT lo row w b r
structure zei(lo:Nat)(row:Option Nat)(w:World)(lo':Nat)(row':Option Nat)(w':World):Prop where
 size:w<=w'.heap.size
 block:∀ k,k<w.heap.size->lo<=k->some k≠row->w'.heap[k]?=w.heap[k]?/\lo'<=k/\some k≠row'
theorem zgx.mono {row:Option Nat} {kv:Value} {ps:List Value}(h:zgx lo row w kv ps)(hk:zei lo row w lo' row' w'):zgx lo' row' w' kv ps:=by
 obtain⟨a,cap,h1,h2,h3,h4⟩:=h;refine⟨a,cap,h1,h2,h3,λi hi=>?_⟩;obtain⟨g,off,e1,e2,e3,e4,e5⟩:=h4 i hi;obtain⟨k1,k2,k3⟩:=hk.block g e4 e2 e3;exact⟨g,off,e1,k2,k3,T_ e4 hk.size,by rw[ag_ (w:=w) (a:=p_ g (off+i)) k1];exact e5⟩
theorem zez.mono {row:Option Nat} {root:Int} {ps:List Value}(h:zez lo row w p root ps)(hk:zei lo row w lo' row' w'):zez lo' row' w' p root ps:=by
 obtain⟨b,kv,h1,h2,h3,h4,h5⟩:=h;obtain⟨k1,k2,k3⟩:=hk.block b h4.lt h2 h3;exact⟨b,kv,h1,k2,k3,k1.trans h4,h5.mono hk⟩
theorem RT.mono {row:Option Nat}(hk:zei lo row w lo' row' w'):∀ {t:KT} {p:Value},RT lo row w t p->RT lo' row' w' t p
 | .leaf n,p,h=>zez.mono h hk
 | .star t,p,h=>by
  obtain⟨q,h1,h2⟩:=h;exact⟨q,h1.mono hk,RT.mono hk h2⟩
 | .bin o a b,p,h=>by
  obtain⟨q,r,h1,h2,h3⟩:=h;exact⟨q,r,h1.mono hk,RT.mono hk h2,RT.mono hk h3⟩
def zd5:=@RT.mono
theorem zei.refl(lo:Nat)(row:Option Nat)(w:World):zei lo row w lo row w:=⟨le_ _,λ_ _ h1 h2=>⟨rfl,h1,h2⟩⟩
theorem zei.below {row:Option Nat}(h:Below w w w'):zei lo row w lo row w':=⟨h.size,λk h0 h1 h2=>⟨h.block k h0,h1,h2⟩⟩
theorem RT.below {row:Option Nat}(h:RT lo row w t p)(hb:Below w w w'):RT lo row w' t p:=zd5 (zei.below hb) h
def zdz:=@RT.below
theorem RT.outside {x y:Nat}(h:RT lo none w t p)(hb:β x y w w')(hy:y<=lo):RT lo none w' t p:=
 zd5 ⟨hb.size,λk h0 h1 h2=>⟨hb.block k h0 (.inr (by omega)),h1,h2⟩⟩ h
theorem RT.lower(h:RT lo none w t p)(hl:lo'<=lo):RT lo' none w t p:=
 zd5 ⟨le_ _,λk h0 h1 h2=>⟨rfl,by omega,h2⟩⟩ h
def KT.kids:KT->List KT
 | .leaf _=>[]
 | .star t=>[t]
 | .bin _ a b=>[a,b]
def Stk(lo:Nat)(row:Option Nat)(w:World):List Value->List KT->Prop
 | [],[]=>True
 | p :: ps,t :: ts=>RT lo row w t p/\Stk lo row w ps ts
 | _,_=>False
theorem Stk.mono {row:Option Nat}(hk:zei lo row w lo' row' w'):∀ {ps:List Value} {ts:List KT},Stk lo row w ps ts->Stk lo' row' w' ps ts
 | [],[],_=>trivial
 | _ :: _,_ :: _,h=>⟨zd5 hk h.1,Stk.mono hk h.2⟩
 | [],_ :: _,h=>h.elim
 | _ :: _,[],h=>h.elim
theorem Stk.length {row:Option Nat}:∀ {ps:List Value} {ts:List KT},Stk lo row w ps ts->ps.length=ts.length
 | [],[],_=>rfl
 | _ :: _,_ :: _,h=>by simp[Stk.length h.2]
 | [],_ :: _,h=>h.elim
 | _ :: _,[],h=>h.elim
theorem Stk.get {row:Option Nat}:∀ {ps:List Value} {ts:List KT},Stk lo row w ps ts->∀ i (h1:i<ps.length) (h2:i<ts.length),RT lo row w ts[i] ps[i]
 | [],_,_,i,h1,_=>by simp at h1
 | _ :: _,[],h,_,_,_=>h.elim
 | _ :: _,_ :: _,h,0,_,_=>h.1
 | _ :: ps,_ :: ts,h,i+1,h1,h2=>Stk.get h.2 i (by simpa using h1) (by simpa using h2)
theorem RT.node {row:Option Nat}(h:RT lo row w t p):∃ ps,zez lo row w p t.root ps/\Stk lo row w ps t.kids:=by
 cases t with
 | leaf n=>exact⟨[],h,trivial⟩
 | star t=>obtain⟨q,h1,h2⟩:=h;exact⟨[q],h1,h2,trivial⟩
 | bin o a b=>obtain⟨q,r,h1,h2,h3⟩:=h;exact⟨[q,r],h1,h2,h3,trivial⟩
theorem Stk.push {row:Option Nat} {ys ks:List Value}(hs:zbm s st=some st')(h:Stk lo row w (ys++ks).reverse st)(hk:(ks.length:Int)=Ο s)
  (hn:zez lo row w p s ks):Stk lo row w (ys++[p]).reverse st':=by
 unfold zbm at hs
 split at hs
 ·rename_i h2
  split at hs
  ·injection hs with hs
   subst hs;rw[h2]at hk
   match ks,hk with
   | [q,r],_=>
    simp only[bm_,d0_,cu_,ad_,aj_]at h ⊢;obtain⟨hb,ha,hr⟩:=h;refine⟨⟨q,r,?_,ha,hb⟩,hr⟩
    have hop:KT.op (s==20)=s:=by
     have:s=19\/s=20:=by
      unfold Ο at h2
      split at h2
      ·assumption
      ·split at h2<;>omega
     rcases this with rfl|rfl<;>rfl
    rw[hop];exact hn
  ·cases hs
 ·split at hs
  ·rename_i h1
   split at hs
   ·injection hs with hs
    subst hs;rw[h1]at hk
    match ks,hk with
    | [q],_=>
     simp only[bm_,d0_,cu_,ad_,aj_]at h ⊢;refine⟨⟨q,?_,h.1⟩,h.2⟩
     have:s=21:=by
      unfold Ο at h1
      split at h1
      ·omega
      ·split at h1
       ·assumption
       ·omega
     subst this;exact hn
   ·cases hs
  ·rename_i h2 h1
   injection hs with hs;subst hs
   have h0:Ο s=0:=by
    have:=zev s;omega
   rw[h0]at hk
   match ks,hk with
   | [],_=>
    simp only[cx_,bm_,d0_,cu_,ad_,aj_]at h ⊢;exact⟨hn,h⟩
theorem zl6(h:zbm s st=some st'):Ο s<=st.length/\(st'.length:Int)=st.length+1-Ο s:=by
 have hb:=zev s;unfold zbm at h
 split at h
 ·rename_i h2
  split at h
  ·injection h with h;subst h;rw[h2];simp;omega
  ·cases h
 ·split at h
  ·rename_i h1
   split at h
   ·injection h with h;subst h;rw[h1];simp;omega
   ·cases h
  ·injection h with h;subst h
   have h0:Ο s=0:=by omega
   rw[h0];simp
theorem zn4(xs:List Int)(q:Nat)(h:q<xs.length):(xs.take (q+1)).reverse=xs[q] :: (xs.take q).reverse:=by
 rw[bz_,l_ h];simp
theorem znz(lo hi:Nat)(v:Value)(xs:List Int)(at_ c:Nat)(w:World)(hx:SlI lo hi w v xs)(hm:xs.length<=1048576)(ha:at_<xs.length)(hs:zcn (xs.take (at_+1)).reverse 1=some c):
  Calls prog 152 #[v,.int .i64 at_] w (zc7 λx w'=>x=((at_+1-c:Nat):Int)/\c<=at_+1/\w=w'):=by
 obtain⟨a,cap,rfl,hcap,hcm,hc⟩:=hx.open;clear hx hcm hcap;have HS:=H_ hs;clear hs
 go_enter func152,ntmps152
 go_wp2
 go_loop [5,6] (λn i=>∃ (q:Nat) (need:Int) (r:Nat),q<=at_+1/\i=.int .i64 q/\n=.int .i64 need/\0<=need/\need<=1+(at_+1-q)/\Q_ (zcn (xs.take q).reverse need=some r/\r+(at_+1)=c+q)) (λ_ i=>(intOf i).toNat)
 case atStart=>exact⟨at_+1,1,c,le_ _,by go_num,rfl,by omega,by omega,H_ ⟨HS.o,by omega⟩⟩
 case round=>
  obtain⟨q,need,r,hq,rfl,rfl,hn0,hn1,HI⟩:=hrel;by_cases hpos:0<need
  ·have hq0:0<q:=by
    rcases dv_ q with h|h
    ·subst h
     have:=HI.o.1;simp only[ds_,cu_,zcn]at this;rw[m_ (by omega)]at this;cases this
    ·exact h
   obtain⟨q,rfl⟩:∃ p,q=p+1:=⟨q-1,by omega⟩;have hqx:q<xs.length:=by omega
   have hspan:=HI.o.1;rw[zn4 xs q hqx,zib _ _ _ hpos,W_]at hspan;obtain⟨r',hr1,hr2⟩:=hspan;have HI2:=H_ (a_ hr1 (show r'+(at_+1)=c+q by have:=HI.o.2;omega));obtain⟨b,off,rfl,_,_,_,hcell⟩:=hc q hqx;obtain⟨t0,t1⟩:=zev xs[q];have hsub:(((q+1:Nat):Int))-1=(q:Int):=by omega
   clear hr1 hr2 hc;go_wp2_with (go_at_call 117;refine(zlm _ _).mono ?_;rintro e w' ⟨rfl,rfl⟩)
   go_round
   case rel=>exact⟨q,need-1+Ο xs[q],r',by omega,by first | rfl | go_num,rfl,by omega,by omega,HI2⟩
   case measure=>simp[intOf]
  ·obtain rfl:need=0:=by omega
   have hr0:r=0:=by
    have:=HI.o.1;rw[zkc]at this;injection this with this;exact this.symm
   have hfin:=HI.o.2;go_wp2;go_ret;exact zc7.mk _ rfl ⟨by omega,by omega,rfl⟩
theorem SlI.sub {b:Nat}(h:SlI lo hi w (.slice (q_ b off) n cap) xs)(i j:Nat)(hij:i<=j)(hj:j<=xs.length):
  SlI lo hi w (.slice (q_ b (off+i)) (j-i) (cap-i)) ((xs.drop i).take (j-i)):=by
 obtain⟨a,cp,e,h1,h2,h3,h4,h5⟩:=h;injection e with e1 e2 e3;subst e1 e2 e3;have hl:((xs.drop i).take (j-i)).length=j-i:=by simp;omega
 refine⟨_,_,by rw[hl],by rw[hl];omega,by omega,by rw[zc1,hl];omega,(λh=>by cases h),λk hk=>?_⟩;rw[zc1,hl]at hk;obtain⟨b',off',f1,f2,f3,f4,f5⟩:=h5 (i+k) (by rw[zc1];omega);injection f1 with f1;injection f1 with f1 f1';subst f1 f1';refine⟨b,off+i,rfl,f2,f3,f4,?_⟩;rw[dw_,f5];simp only[δ,dz_,bb_,du_];rw[x_ (by omega)]
theorem SlI.notNil {a:Option Addr}(h:SlI lo hi w (.slice a n cap) xs)(h0:0<xs.length):∃ b off,a=some ⟨b,off,none⟩:=by
 obtain⟨b,off,e,_⟩:=h.get 0 h0;exact⟨b,off,e⟩
def zir(P:Value->Value->World->Prop)(e:Ending)(w':World):Prop:=∃ a b,e=.returned (.tuple #[a,b])/\P a b w'
theorem zvm {lo:Int} {p:Bool} {a b:KT}(hb:b.ok lo=true):zcn (((KT.bin p a b).post).take ((KT.bin p a b).post.length-1)).reverse 1=some b.size:=by
 have h1:((KT.bin p a b).post).take ((KT.bin p a b).post.length-1)=a.post++b.post:=by
  have hl:(KT.bin p a b).post.length-1=(a.post++b.post).length:=by simp[KT.post]
  rw[hl];exact bl_
 rw[h1,bm_,zi5 lo b hb _ _ (by omega)];simp[zkc]
theorem zg4(lo hi:Nat)(v:Value)(bd:Int)(p:Bool)(x y:KT)(w:World)(hx:SlI lo hi w v (KT.bin p x y).post)(hm:(KT.bin p x y).post.length<=1048576)(hoy:y.ok bd=true):
  Calls prog 156 #[v] w (zir λa b w'=>(∃ m,w'=w.drewN m)/\SlI lo hi w a x.post/\SlI lo hi w b y.post):=by
 have HX:=H_ hx;obtain⟨a,cap,rfl,hcap,hcm,_⟩:=hx.open;have hlen:(KT.bin p x y).post.length=x.size+y.size+1:=by rw[zaz];rfl
 have hsx:=x.size_pos;have hsy:=y.size_pos;have hsp:=zvm (p:=p) (a:=x) hoy;obtain⟨b,off,rfl⟩:=hx.notNil (by omega);have HC:=H_ (znz lo hi _ (KT.bin p x y).post (x.size+y.size-1) y.size w HX.o hm (by omega) (by rw[<-hsp,hlen];congr 3;omega));have H1:=HX.o.sub 0 x.size (by omega) (by omega);have H2:=HX.o.sub x.size (x.size+y.size) (by omega) (by omega)
 have e1:(((KT.bin p x y).post.drop 0).take (x.size-0))=x.post:=by
  rw[ci_,d8_,<-x.post_length];simp[KT.post]
 have e2:(((KT.bin p x y).post.drop x.size).take (x.size+y.size-x.size))=y.post:=by
  have:(KT.bin p x y).post.drop x.size=y.post++[KT.op p]:=by
   rw[<-x.post_length];simp[KT.post]
  rw[this,show x.size+y.size-x.size=y.post.length by rw[y.post_length];omega,bl_]
 rw[e1]at H1;rw[e2]at H2;have HH:=H_ (a_ H1 H2);unfold maxLen at hcm;have hcast:((x.size+y.size-1:Nat):Int)=(x.size:Int)+y.size-1:=by omega
 rw[hlen]at hcap hm HC ⊢;rw[hcast]at HC;clear hx H1 H2 e1 e2 hsp hm
 go_enter func156,ntmps156
 go_wp2_with fail
 refine HC.o.mono ?_;rintro e w1 ⟨x1,rfl,hx1,_,rfl⟩;obtain rfl:x1=(x.size:Int):=by omega
 clear HC hx1;have⟨g1,g2,g3,g4,g5,g6⟩:(x.size:Int)<=cap/\(x.size:Int)<=x.size+y.size/\(x.size:Int)+y.size<=cap/\(0:Int)<=(x.size:Int)+y.size/\((x.size:Int)+y.size).toNat=x.size+y.size/\((x.size:Int)+y.size-x.size).toNat=y.size:=by omega
 have g7:x.size<=cap:=by omega
 go_wp2_with fail
 go_region
 go_wp2
 go_ret2
 have h1:SlI lo hi w (.slice (q_ b off) x.size cap) x.post:=HH.o.1
 have h2:SlI lo hi w (.slice (q_ b (off+x.size)) y.size (cap-x.size)) y.post:=by
  have h:=HH.o.2
  rwa [Nat.add_sub_cancel_left]at h
 exact⟨_,_,rfl,⟨1,rfl⟩,h1,h2⟩
theorem zjt(lo hi lo' hi':Nat)(v v':Value)(xs ys:List Int)(w:World)(hx:SlI lo hi w v xs)(hy:SlI lo' hi' w v' ys)(hm:xs.length<=16777216)(hm':ys.length<=16777216):
  c_ 65 #[v,v'] w (.bool (eqL xs ys)):=by
 obtain⟨a,cap,rfl,hcap,hcm,hc⟩:=hx.open;obtain⟨a',cap',rfl,hcap',hcm',hc'⟩:=hy.open;clear hx hcm hy hcm' hcap hcap'
 go_enter func65,ntmps65
 go_wp2;go_loopw [5] (λi wr=>∃ k m:Nat,k<=xs.length/\k<=ys.length/\i=.int .i64 k/\Q_ (∀ j (h1:j<k) (h2:j<xs.length) (h3:j<ys.length),xs[j]=ys[j])/\wr=w.drewN m) (λi _=>xs.length-(intOf i).toNat)
 case atStart=>exact⟨0,0,by omega,by omega,rfl,H_ (by intro j h;omega),rfl⟩
 case round=>
  obtain⟨k,m,hk,hk',rfl,HJ,rfl⟩:=hrel;by_cases hlt:k<xs.length
  ·by_cases hlt':k<ys.length
   ·(obtain⟨b,off,rfl,_,_,hbs,hck⟩:=hc k hlt);obtain⟨b',off',rfl,_,_,hbs',hck'⟩:=hc' k hlt';clear hc hc';by_cases he:xs[k]=ys[k]
    ·(have HE:=H_ he);(have he1:(xs[k] !=ys[k])=false:=by simp[he]);clear he;go_wp2
     go_quiet (fail)
     go_wp2;go_roundw
     case rel=>
      refine⟨k+1,m+nq,by omega,by omega,by go_num,H_ ?_,by first | rfl | rw[cq_]⟩;intro j h1 h2 h3;rcases bi_ j k with h|h
      ·exact HJ.o j h h2 h3
      ·(obtain rfl:j=k:=by omega);exact HE.o
     case measure=>simp[intOf];omega
    ·(have HE:=H_ he);(have he1:(xs[k] !=ys[k])=true:=by simp[he]);clear he;go_wp2
     go_quiet (fail)
     go_wp2;go_ret;exact⟨χ (zrb hlt hlt' HE.o).symm,ai_ (ai_ (B_ _ _) _) _⟩
   ·(have hne:((xs.length:Int)==ys.length)=false:=by simp;omega);go_wp2;go_ret;exact⟨χ (zk1 (by omega)).symm,ai_ (B_ _ _) _⟩
  ·obtain rfl:k=xs.length:=by omega
   by_cases hl:xs.length=ys.length
   ·(have hne:((xs.length:Int)==ys.length)=true:=by simp[hl]);have HL:=H_ hl;clear hl;go_wp2;go_ret;exact⟨χ (zsf HL.o λj h1 h2=>HJ.o j (by omega) h1 h2).symm,ai_ (B_ _ _) _⟩
   ·(have hne:((xs.length:Int)==ys.length)=false:=by simp;omega);have HL:=H_ hl;clear hl;go_wp2;go_ret;exact⟨χ (zk1 HL.o).symm,ai_ (B_ _ _) _⟩
theorem zje(lo hi lo' hi':Nat)(v v':Value)(xs ys:List Int)(w:World)(hx:SlI lo hi w v xs)(hy:SlI lo' hi' w v' ys)(hm:xs.length<=1048576)(hm':ys.length<=1048576):
  c_ 65 #[v,v'] w (.bool (eqL xs ys)):=zjt lo hi lo' hi' v v' xs ys w hx hy (by omega) (by omega)
def RdI(w:World)(v:Value)(xs:List Int):Prop:=SlI 0 w w v xs
theorem RdI.below(h:RdI w v xs)(hb:Below w w w'):RdI w' v xs:=(zjb h hb (le_ _)).wide (le_ _) hb.size
def zfh:=@RdI.below
theorem SlI.rd(h:SlI lo hi w v xs)(hh:hi<=w):RdI w v xs:=h.wide (aw_ _) hh
def zd0:=@SlI.rd
def RdV(w:World)(v:Value)(V:List (List Int)):Prop:=∃ vs,Sl 1 0 w w v 3 vs/\∀ k,k<3->∃ u,vs[k]?=some u/\RdI w u (V.getD k [])
theorem RdV.below {V:List (List Int)}(h:RdV w v V)(hb:Below w w w'):RdV w' v V:=by
 obtain⟨vs,h1,h2⟩:=h;refine⟨vs,(h1.below hb (le_ _)).wide (le_ _) hb.size,λk hk=>?_⟩;obtain⟨u,h3,h4⟩:=h2 k hk;exact⟨u,h3,h4.below hb⟩
theorem RdV.get {V:List (List Int)}(h:RdV w v V):
  ∃ b off cap,v=.slice (q_ b off) 3 cap/\3<=cap/\cap<=maxLen/\b<w.heap.size /\
   ∀ k,k<3->∃ a c,w.cell? (p_ b (off+k))=some (.slice a (V.getD k []).length c)/\RdI w (.slice a (V.getD k []).length c) (V.getD k []):=by
 obtain⟨vs,⟨a,cap,rfl,h1,h2,hl,hn,hc⟩,h3⟩:=h;obtain⟨b,off,rfl,_,hb,_,_⟩:=hc 0 (by omega);refine⟨b,off,cap,rfl,h1,h2,hb,λk hk=>?_⟩;obtain⟨b',off',e,_,_,_,h4⟩:=hc k (by omega);injection e with e;injection e with e1 e2;subst e1 e2;obtain⟨u,h5,h6⟩:=h3 k hk;have h6':=h6;obtain⟨a',c',rfl,_⟩:=h6'.open;exact⟨a',c',by rw[h4,h5],h6⟩
def za8(P:Value->Bool->World->Prop)(e:Ending)(w':World):Prop:=∃ v b,e=.returned (.tuple #[v,.bool b])/\P v b w'
def zcx(w:World)(r:Option (List (List Int)))(v:Value)(ok:Bool)(w':World):Prop:=
 Below w w w'/\ok=r.isSome/\∃ V',GV V'/\RdV w' v V'/\∀ V'',r=some V''->V'=V''
def zgn(p:KT):Prop:=p.ok (-3)=true->p.size<=60->∀ (t:KT) (V:List (List Int)) (w:World) (a b c:Value),t.ok 0=true->t.size<=40->GV V->RdI w a p.post->RdI w b t.post->RdV w c V ->
 Calls prog 153 #[a,b,c] w (za8 (zcx w (Α p t V)))
theorem KT.post_root(t:KT):∃ m,t.post.length=m+1/\t.post[m]?=some t.root:=by
 cases t with
 | leaf n=>exact⟨0,rfl,rfl⟩
 | star t=>exact⟨t.post.length,by simp[KT.post],by simp[KT.post,KT.root]⟩
 | bin p a b=>exact⟨(a.post++b.post).length,by simp[KT.post];omega,by simp[KT.post,KT.root]⟩
theorem RdI.last(h:RdI w v t.post):
  ∃ b off cap m,v=.slice (q_ b off) (m+1) cap/\t.size=m+1/\m+1<=cap/\cap<=maxLen/\b<w.heap.size/\w.cell? (p_ b (off+m))=some (.int .i64 t.root):=by
 obtain⟨m,hm,hr⟩:=t.post_root;obtain⟨a,cap,rfl,h1,h2,hc⟩:=h.open;obtain⟨b,off,rfl,_,hb,_,h4⟩:=hc m (by omega);rw[hm]at h1;refine⟨b,off,cap,m,by rw[hm],by rw[<-t.post_length,hm],h1,h2,hb,?_⟩;rw[h4];rw[l_ (by omega)]at hr;injection hr with hr;rw[hr]
theorem zcx.same {V:List (List Int)}(hV:GV V)(hr:RdV w v V)(hb:Below w w w'):zcx w (some V) v true w':=
 ⟨hb,rfl,V,hV,hr.below hb,λV'' h=>by injection h⟩
theorem zcx.none {V:List (List Int)}(hV:GV V)(hr:RdV w v V)(hb:Below w w w'):zcx w none v false w':=
 ⟨hb,rfl,V,hV,hr.below hb,λV'' h=>by cases h⟩
theorem zt3(n:Int):zgn (.leaf n):=by
 intro hp hps t V w va vb vc ht hts hV ha hb hc;simp only[KT.ok,j_,t_]at hp;obtain⟨hp1,hp2⟩:=hp;have HA:=H_ ha;have HB:=H_ hb;have HC:=H_ hc;have HV:=H_ hV;obtain⟨pb,po,pc,pm,rfl,hpm,_,_,hpb,hpc⟩:=ha.last;obtain rfl:pm=0:=by simp[KT.size] at hpm;omega
 simp only[KT.root,cj_]at hpc;obtain⟨tb,to,tc,tm,rfl,htm,ht1,ht2,htb,htc⟩:=hb.last;obtain⟨cb,co,cc,rfl,_,_,hcb,hcc⟩:=hc.get;have⟨hsub,htm40⟩:((tm+1:Nat):Int)-1=tm/\tm+1<=40:=by omega
 have hw0:Below w w w:=B_ _ _;clear ha hb hc hV hps hpm;by_cases hn:n<0
 ·obtain⟨k,hk,hkn⟩:∃ k:Nat,k<3/\(-1:Int)-n=k:=⟨(-1-n).toNat,by omega,by omega⟩
  have hvk:zbf n=k:=by simp[zbf,hkn]
  obtain⟨ka,kc,hkc,hkr⟩:=hcc k hk;have HKR:=H_ hkr;have hkb:=HV.o.bd k;have hk3:(k:Int)<3:=by omega
  clear hcc hkr;by_cases h0:V.getD k []=[]
  ·have HR:Q_ (Α (.leaf n) t V=some (V.set k t.post)):=H_ (by rw[Α,x_ hn,hvk,x_ h0])
   rw[h0]at hkc;obtain⟨vs,hsl,hel⟩:=HC.o
   have hone:∀ u∈vs,u.oneCell'=true:=by
    intro u hu;obtain⟨i,hi,rfl⟩:=ax_ hu;have hl:vs.length=3:=by obtain⟨_,_,_,_,_,h,_⟩:=hsl;omega
    obtain⟨u',h1,h2⟩:=hel i (by omega);rw[l_ hi]at h1;injection h1 with h1;obtain⟨_,_,h3,_⟩:=h2.open;rw[h1,h3];rfl
   have HEL:=H_ hel;have KVL:=H_ hsl;have H0:Q_ (Own 1 w (w+1) 22 (w.alloc (.cells #[] 22)) (.slice (q_ w 0) 0 0) 0 []):=H_ (ς 1 22 w [] 0 (by omega) rfl);obtain⟨w0,hw0'⟩:∃ w0,w0=w.alloc (.cells #[] 22):=⟨_,rfl⟩;have hb0:Below w w w0:=by rw[hw0'];exact(B_ _ _).alloc (le_ _) _
   have hs0:w0=w.heap.size+1:=by rw[hw0'];simp
   rw[<-hw0']at H0;have KV:=H_ (hsl.below hb0 (le_ _));have HB0:=H_ hb0;have HW0:=H_ hw0';have HONE:=H_ hone;clear hsl hel hone hb0 hw0'
   go_enter func153,ntmps153
   go_wp2_with (at_builtin;rw[show w.alloc (.cells #[] 22)=w0 from HW0.o.symm];refine Μ rfl _ _ 119 rfl 22 () 1 24 underlying119 zab rfl (by decide) (by decide) rfl H0.o rfl KV.o HONE.o ?c1 ?c2 ?_)
   case c1=>omega
   case c2=>omega
   intro v1 w1 ho1 _ hout1 _;have hs1:=hout1.size;have HB1:=H_ (ε HB0.o hout1 (le_ _) HB0.o.size);have KE:=H_ (HB.o.below HB1.o);obtain⟨va,vcap,rfl,hv1,hv2,_,hv3⟩:=θ ho1;obtain⟨g,rfl,hg1,hg2⟩:=hv3 (by omega);have O1:=H_ ho1;have H2:Q_ (Own 1 w1 (w1+1) 3 (w1.alloc (.cells #[] 3)) (.slice (q_ w1 0) 0 0) 0 (δ [])):=H_ (ς 1 3 w1 (δ []) 0 (by omega) rfl);have⟨w2,hw2⟩:=xa_ w1 #[] 3;have hb2:Below w1 w1 w2:=by rw[hw2];exact(B_ _ _).alloc (le_ _) _
   have hs2:w2=w1.heap.size+1:=by rw[hw2];simp
   rw[<-hw2]at H2;have HB2:=H_ hb2;have KE2:=H_ (KE.o.below hb2);have O2:=H_ (ho1.below hb2 (le_ _));have hpl:t.post.length<=40:=by rw[zaz];omega
   have hpl2:t.post.length=tm+1:=by rw[zaz];omega
   have HW2:=H_ hw2;clear ho1 hout1 H0 HW0 KV hb2 hw2 KE;go_wp2_with (at_builtin;rw[show w1.alloc (.cells #[] 3)=w2 from HW2.o.symm];refine Μ rfl _ _ 22 rfl 3 (0:Int) 1 8 underlying22 ω rfl (by decide) (by decide) rfl H2.o rfl KE2.o (Ι _) ?c1 ?c2 ?_)
   case c1=>omega
   case c2=>omega
   intro v3 w3 ho3 _ hout3 _;have hs3:=hout3.size;have O3:=H_ ho3;replace O2:=H_ (O2.o.outside hout3 (.inl (le_ _)));have HB3:=H_ (HB1.o.trans (((ε HB2.o hout3 (by omega) HB2.o.size)).mono (show w<=w1.heap.size by omega)));obtain⟨a3,cap3,rfl,_⟩:=θ ho3;have hcg:=O2.o.1.cellAt k (by omega);have hfg:=O2.o.1.frozenAt k;have hgs:g<w3:=by omega
   have HST:=H_ (O2.o.1.stored k (.slice a3 (tm+1) cap3));obtain⟨u0,hu0,hru⟩:=HEL.o k hk;rw[hu0]at hcg;obtain⟨ua,uc,rfl,_⟩:=hru.open;have hvl:vs.length=3:=by obtain⟨_,_,_,_,_,h,_⟩:=KVL.o;omega
   clear ho3 hout3 O1 H2 HW2 HB2 hru KE2;go_wp2;refine d_ (v:=.tuple #[.slice (q_ g 0) 3 vcap,.bool true]) (by simp[results,results153,go_sem]) rfl ⟨_,_,rfl,?_⟩;rw[HR.o];have hst:=HST.o.1;have⟨w4,hw4⟩:=ex_ (w3.setCell (p_ g k) (.slice a3 (tm+1) cap3));have hO4:β g (g+1) w3 w4:=by rw[hw4];exact(β.refl _ _ _).setCell (p:=p_ g k) (le_ _) (D_ _) _
   rw[<-hw4]at hst ⊢;have hs4:=hO4.size;have hB4:Below w w w4:=ε HB3.o hO4 hg1 HB3.o.size;refine⟨hB4,rfl,V.set k t.post,HV.o.set k t ht hts,⟨vs.set k (.slice a3 (tm+1) cap3),?_,λi hi=>?_⟩,λV'' h=>by injection h⟩
   ·(have hs:Own 1 w w4 22 w4 (.slice (q_ g 0) 3 vcap) 3 (vs.set k (.slice a3 (tm+1) cap3)):=⟨by simpa using hst,λq hq=>by simp[Value.ownBlock] at hq;omega⟩);exact(zct hs).wide (aw_ _) (le_ _)
   ·by_cases hik:k=i
    ·subst hik
     refine⟨_,by rw[List.getElem?_set_self (by omega)],?_⟩
     have hVk:(V.set k t.post).getD k []=t.post:=by
      have:=HV.o.len;simp[List.getD,this,hi]
     rw[hVk]
     have h3:SlI w1 w3 w3 (.slice a3 (tm+1) cap3) t.post:=by
      have h:=(zct O3.o);simp only[δ,c3_,ad_]at h;unfold SlI;rw[hpl2];exact h
     exact(h3.outside hO4 (.inr (by omega))).wide (aw_ _) hs4
    ·(have hVi:(V.set k t.post).getD i []=V.getD i []:=by simp[List.getD,a6_ hik]);obtain⟨u,h1,h2⟩:=HEL.o i hi;refine⟨u,by rw[a6_ hik,h1],?_⟩;rw[hVi];exact h2.below hB4
  ·have hlen:0<(V.getD k []).length:=by cases h:V.getD k [] with | nil=>exact absurd h h0 | cons _ _=>simp
   have hkd:=HV.o.bd k;by_cases hq:V.getD k []=t.post
   ·(have HR:Q_ (Α (.leaf n) t V=some V):=H_ (by rw[Α,x_ hn,hvk,m_ h0,x_ hq]));(have HCS:=H_ (zje _ _ _ _ _ _ (V.getD k []) t.post w HKR.o HB.o (by omega) (by rw[zaz];omega));have hQ:=H_ (show eqL (V.getD k []) t.post=true by rw[hq];simp[eqL]);clear hq);go_enter func153,ntmps153
    go_wp2_with fail
    refine HCS.o.mono ?_;rintro e w1 ⟨rfl,hb⟩;rw[hQ.o];go_wp2;refine d_ (v:=.tuple #[.slice (q_ cb co) 3 cc,.bool true]) (by simp[results,results153,go_sem]) rfl ⟨_,_,rfl,?_⟩;rw[HR.o];exact zcx.same HV.o HC.o hb
   ·(have HR:Q_ (Α (.leaf n) t V=none):=H_ (by rw[Α,x_ hn,hvk,m_ h0,m_ hq]));(have HCS:=H_ (zje _ _ _ _ _ _ (V.getD k []) t.post w HKR.o HB.o (by omega) (by rw[zaz];omega));have hQ:=H_ (show eqL (V.getD k []) t.post=false by simpa [eqL] using hq);clear hq);go_enter func153,ntmps153
    go_wp2_with fail
    refine HCS.o.mono ?_;rintro e w1 ⟨rfl,hb⟩;rw[hQ.o];go_wp2;refine d_ (v:=.tuple #[.slice (q_ cb co) 3 cc,.bool false]) (by simp[results,results153,go_sem]) rfl ⟨_,_,rfl,?_⟩;rw[HR.o];exact zcx.none HV.o HC.o hb
 ·have hn0:0<=n:=by omega
  by_cases hq:t.root=n
  ·have HR:Q_ (Α (.leaf n) t V=some V):=H_ (by rw[Α,m_ hn,x_ hq])
   rw[hq]at htc;have hn19:n<19:=by omega
   have hn21:(n==21)=false:=by simp;omega
   have hnn:(n !=n)=false:=by simp
   clear hq
   go_enter func153,ntmps153
   go_wp2;refine d_ (v:=.tuple #[.slice (q_ cb co) 3 cc,.bool true]) (by simp[results,results153,go_sem]) rfl ⟨_,_,rfl,?_⟩;rw[HR.o];exact zcx.same HV.o HC.o hw0
  ·have HR:Q_ (Α (.leaf n) t V=none):=H_ (by rw[Α,m_ hn,m_ hq])
   have hnn:(t.root !=n)=true:=by simpa using hq
   clear hq
   go_enter func153,ntmps153
   go_wp2;refine d_ (v:=.tuple #[.slice (q_ cb co) 3 cc,.bool false]) (by simp[results,results153,go_sem]) rfl ⟨_,_,rfl,?_⟩;rw[HR.o];exact zcx.none HV.o HC.o hw0
theorem RdI.front {b:Nat}(h:RdI w (.slice (q_ b off) n cap) (xs++[s])):RdI w (.slice (q_ b off) xs cap) xs:=by
 have h1:=SlI.sub h 0 xs.length (aw_ _) (by simp);simp only[cj_,d8_,ci_,bl_]at h1;exact h1
theorem zcx.from {w1:World} {r:Option (List (List Int))} {ok:Bool}(hb:Below w w w1)(h:zcx w1 r v ok w'):zcx w r v ok w':=
 ⟨hb.trans (h.1.mono hb.size),h.2⟩
theorem zu4(p:KT)(ih:zgn p):zgn (.star p):=by
 intro hp hps t V w va vb vc ht hts hV ha hb hc;have HIH:=H_ ih;have HP:=H_ (show p.ok (-3)=true from hp);have HPS:=H_ (show p.size<=60 by simp only[KT.size] at hps;omega);have HA:=H_ ha;have HB:=H_ hb;have HC:=H_ hc;have HV:=H_ hV;obtain⟨pb,po,pc,pm,rfl,hpm,hpc1,hpc2,hpb,hpc⟩:=ha.last;simp only[KT.root]at hpc;simp only[KT.size]at hpm;obtain⟨tb,to,tc,tm,rfl,htm,ht1,ht2,htb,htc⟩:=hb.last;obtain⟨cb,co,cc,rfl,_,_,hcb,_⟩:=hc.get;have⟨hsub,hsub2,htm40⟩:((tm+1:Nat):Int)-1=tm/\((pm+1:Nat):Int)-1=pm/\tm+1<=40:=by omega
 have hpm60:pm+1<=60:=by simp only[KT.size] at hps;omega
 have hw0:Below w w w:=B_ _ _;clear hc hV hp hps ih;have n1:¬((21:Int)<0):=by decide
 by_cases hq:t.root=21
 ·obtain⟨t',rfl⟩:∃ t',t=.star t':=by
   cases t with
   | leaf n=>simp only[KT.ok,j_,t_] at ht;simp only[KT.root] at hq;omega
   | star t'=>exact⟨t',rfl⟩
   | bin q _ _=>cases q<;>simp[KT.root,KT.op] at hq
  simp only[KT.root]at htc;simp only[KT.size]at htm hts;have HT:=H_ (show t'.ok 0=true from ht)
  have HA1:Q_ (RdI w (.slice (q_ pb po) pm pc) p.post):=by
   have h:=RdI.front (xs:=p.post) (s:=21) ha;rw[p.post_length,show p.size=pm by omega]at h;exact H_ h
  have HB1:Q_ (RdI w (.slice (q_ tb to) tm tc) t'.post):=by
   have h:=RdI.front (xs:=t'.post) (s:=21) hb;rw[t'.post_length,show t'.size=tm by omega]at h;exact H_ h
  have HR:Q_ (Α (.star p) (.star t') V=Α p t' V):=H_ (by rw[Α]);have hwd:Below w w w.drew:=hw0.drew;have HCL:=H_ (HIH.o HP.o HPS.o t' V w.drew _ _ _ HT.o (by omega) HV.o (HA1.o.below hwd) (HB1.o.below hwd) (HC.o.below hwd));have⟨g1,g2,g3,g4⟩:pm<=pc/\(pm:Int)<=pc/\tm<=tc/\(tm:Int)<=tc:=by omega
  have r1:IntKind.i64.wrap (tm:Int)=tm:=by simp[IntKind.wrap,IntKind.bits,IntKind.signed];omega
  have r4:(0:Int)<=tm:=by omega
  clear ha hb ht hts hq HIH
  go_enter func153,ntmps153
  go_wp2_with fail
  go_region_with (go_at_call 153;refine(HCL.o).mono ?_;rintro e w1 ⟨v1,b1,rfl,hres⟩)
  all_goals (
   go_wp2;refine d_ (v:=.tuple #[v1,.bool b1]) (by simp[results,results153,go_sem]) rfl ⟨_,_,rfl,?_⟩;rw[HR.o];exact zcx.from hwd hres)
 ·have HR:Q_ (Α (.star p) t V=none):=by
   cases t with
   | star t'=>exact absurd rfl hq
   | leaf n=>exact H_ (by simp[Α])
   | bin _ _ _=>exact H_ (by simp[Α])
  have hnn:(t.root !=21)=true:=by simpa using hq
  clear hq ha hb
  go_enter func153,ntmps153
  go_wp2;refine d_ (v:=.tuple #[.slice (q_ cb co) 3 cc,.bool false]) (by simp[results,results153,go_sem]) rfl ⟨_,_,rfl,?_⟩;rw[HR.o];exact zcx.none HV.o HC.o hw0
theorem zk4 {q r:Bool}(a b c d:KT)(V:List (List Int)):Α (.bin q a b) (.bin r c d) V=if q=r then (Α a c V).bind (Α b d) else none:=by rw[Α]
theorem zw7(q:Bool)(pa pb':KT)(iha:zgn pa)(ihb:zgn pb'):zgn (.bin q pa pb'):=by
 intro hp hps t V w va vb vc ht hts hV ha hb hc;have HIA:=H_ iha;have HIB:=H_ ihb;simp only[KT.ok,j_]at hp;have HP:=H_ hp;have HPS:=H_ (show pa.size<=60/\pb'.size<=60 by simp only[KT.size] at hps;omega);have HA:=H_ ha;have HB:=H_ hb;have HC:=H_ hc;have HV:=H_ hV;obtain⟨pb,po,pc,pm,rfl,hpm,hpc1,hpc2,hpb,hpc⟩:=ha.last;simp only[KT.root]at hpc;obtain⟨tb,to,tc,tm,rfl,htm,ht1,ht2,htb,htc⟩:=hb.last;obtain⟨cb,co,cc,rfl,_,_,hcb,_⟩:=hc.get;have⟨hsub,hsub2,htm40,hpm60⟩:((tm+1:Nat):Int)-1=tm/\((pm+1:Nat):Int)-1=pm/\tm+1<=40/\pm+1<=60:=by omega
 have hw0:Below w w w:=B_ _ _;have n1:¬(KT.op q<0):=by cases q<;>simp[KT.op]
 have n2:¬(KT.op q<19):=by cases q<;>simp[KT.op]
 have n3:(KT.op q==21)=false:=by cases q<;>simp[KT.op]
 clear hc hV hp iha ihb;by_cases hq:t.root=KT.op q
 ·obtain⟨c,d,rfl⟩:∃ c d,t=.bin q c d:=by
   cases t with
   | leaf n=>simp only[KT.ok,j_,t_] at ht;cases q<;>simp only[KT.root,KT.op] at hq<;>(simp at hq;omega)
   | star t'=>cases q<;>simp[KT.root,KT.op] at hq
   | bin r c d=>cases q<;>cases r<;>first | exact⟨c,d,rfl⟩ | simp[KT.root,KT.op] at hq
  simp only[KT.root]at htc;simp only[KT.ok,j_]at ht;have HT:=H_ ht;have HTS:=H_ (show c.size<=40/\d.size<=40 by simp only[KT.size] at hts;omega);have HM:=H_ ((zk4 (q:=q) (r:=q) pa pb' c d V).trans (x_ rfl));have HC1:=H_ (zg4 0 w _ (-3) q pa pb' w HA.o (by rw[zaz];omega) HP.o.2);have hnn:(KT.op q !=KT.op q)=false:=by simp
  clear ha hb ht hq hps
  go_enter func153,ntmps153
  go_wp2_with fail
  refine HC1.o.mono ?_;rintro e w1 ⟨a1,a2,rfl,hm1,h1,h2⟩;have hd1:Below w w w1:=by obtain⟨m,rfl⟩:=hm1;exact ai_ hw0 m
  have H1:=H_ (zfh h1 hd1);have H2:=H_ (zfh h2 hd1);have HB1:=H_ hd1;replace HB:=H_ (HB.o.below HB1.o);replace HC:=H_ (HC.o.below HB1.o);clear h1 h2 HC1 HA hm1 hd1;have HC2:=H_ (zg4 0 w1 _ 0 q c d w1 HB.o (by rw[zaz];omega) HT.o.2);go_wp2_with fail
  refine HC2.o.mono ?_;rintro e w2 ⟨b1,b2,rfl,hm2,h1,h2⟩;have hd2:Below w1 w1 w2:=by obtain⟨m,rfl⟩:=hm2;exact ai_ (B_ _ _) m
  have G1:=H_ (zfh h1 hd2);have G2:=H_ (zfh h2 hd2);replace H1:=H_ (H1.o.below hd2);replace H2:=H_ (H2.o.below hd2);replace HB1:=HB1.ts hd2;replace HC:=H_ (HC.o.below hd2);clear h1 h2 HC2 HB hd2 hm2;go_wp2_with fail
  refine(HIA.o HP.o.1 HPS.o.1 c V _ _ _ _ HT.o.1 HTS.o.1 HV.o H1.o G1.o HC.o).mono ?_;rintro e w3 ⟨v3,b3,rfl,hb3,rfl,V3,hg3,hr3,hx3⟩;replace H2:=H_ (H2.o.below hb3);replace G2:=H_ (G2.o.below hb3);replace HC:=H_ (HC.o.below hb3);replace HB1:=HB1.ts hb3;have HR3:=H_ hr3;have HG3:=H_ hg3;have HX:=H_ hx3;clear hb3 hr3 hg3 hx3;cases hres:Α pa c V with
  | none=>
   have HN:=H_ hres;clear hres;simp only[a8_];go_wp2;refine d_ (v:=.tuple #[.slice (q_ cb co) 3 cc,.bool false]) (by simp[results,results153,go_sem]) rfl ⟨_,_,rfl,?_⟩;rw[HM.o,HN.o];exact⟨HB1.o,rfl,V,HV.o,HC.o,λV'' h=>by cases h⟩
  | some V'=>
   have HN:=H_ hres;obtain rfl:V3=V':=HX.o V' hres;clear hres;simp only[a0_];go_wp2_with fail
   refine(HIB.o HP.o.2 HPS.o.2 d V3 _ _ _ _ HT.o.2 HTS.o.2 HG3.o H2.o G2.o HR3.o).mono ?_;rintro e w4 ⟨v4,b4,rfl,hres⟩;go_wp2;refine d_ (v:=.tuple #[v4,.bool b4]) (by simp[results,results153,go_sem]) rfl ⟨_,_,rfl,?_⟩;rw[HM.o,HN.o];exact zcx.from HB1.o hres
 ·have HR:Q_ (Α (.bin q pa pb') t V=none):=by
   cases t with
   | bin r c d=>exact H_ (by rw[zk4,m_];intro h;subst h;exact hq rfl)
   | leaf n=>exact H_ (by simp[Α])
   | star _=>exact H_ (by simp[Α])
  have hnn:(t.root !=KT.op q)=true:=by simpa using hq
  clear hq ha hb
  go_enter func153,ntmps153
  go_wp2;refine d_ (v:=.tuple #[.slice (q_ cb co) 3 cc,.bool false]) (by simp[results,results153,go_sem]) rfl ⟨_,_,rfl,?_⟩;rw[HR.o];exact zcx.none HV.o HC.o hw0
theorem zjw:∀ p:KT,zgn p
 | .leaf n=>zt3 n
 | .star p=>zu4 p (zjw p)
 | .bin q a b=>zw7 q a b (zjw a) (zjw b)
theorem zpm(xs:List Int)(V:List (List Int))(k:Nat)(h:xs.length<=k):Γ (xs.drop k) V=some []:=by rw[az_ h];rfl
theorem zre(xs:List Int)(V:List (List Int))(k:Nat)(h:k<xs.length):
  Γ (xs.drop k) V=if 0<=xs[k] then (Γ (xs.drop (k+1)) V).map (xs[k] :: ·) else if V.getD (zbf xs[k]) []=[] then none else (Γ (xs.drop (k+1)) V).map (V.getD (zbf xs[k]) []++·):=by
 rw[y_ h,Γ]
def FillR(w:World)(r:Option (List Int))(v:Value)(ok:Bool)(w':World):Prop:=
 Below w w w'/\ok=r.isSome/\(∃ l,SlI w w' w' v l)/\∀ out,r=some out->γ w w' 3 w' v out
theorem zux(xs:List Int)(V:List (List Int))(w:World)(va vc:Value)(hxs:∀ i (h:i<xs.length),-3<=xs[i])(hxl:xs.length<=60)(hV:GV V)(ha:RdI w va xs)(hc:RdV w vc V):
  Calls prog 154 #[va,vc] w (za8 (FillR w (Γ xs V))):=by
 have HA:=H_ ha;have HC:=H_ hc;have HV:=H_ hV;have HXS:=H_ hxs;obtain⟨a,cap,rfl,hcap,hcm,hca⟩:=ha.open;obtain⟨cb,co,cc,rfl,_,_,hcb,hcc⟩:=hc.get;have HCA:=H_ hca;have HCC:=H_ hcc;have h0:Own 1 w (w.alloc (.cells #[] 3)).heap.size 3 (w.alloc (.cells #[] 3)) (.slice (q_ w 0) 0 0) 0 (δ []):=zf9 (ς 1 3 w (δ []) 0 (by omega) rfl) (by simp);have H0:=H_ h0;have HB0:=H_ ((B_ w w).alloc (le_ _) (.cells #[] 3));clear ha hc hV hxs hca hcc h0
 go_enter func154,ntmps154
 go_wp2;go_loopw [6,7] (λv i wr=>∃ (k:Nat) (acc:List Int),k<=xs.length/\i=.int .i64 k/\acc.length<=40*k/\Q_ (Own 1 w wr 3 wr v acc.length (δ acc)/\Below w w wr/\Γ xs V=(Γ (xs.drop k) V).map (acc++·))) (λ_ i _=>xs.length-(intOf i).toNat)
 case atStart=>exact⟨0,[],by omega,rfl,by simp,H_ ⟨H0.o,HB0.o,by rw[ci_];cases Γ xs V<;>simp⟩⟩
 case round=>
  obtain⟨k,acc,hk,rfl,hal,HR⟩:=hrel;have HO:=H_ HR.o.1;have HB:=H_ HR.o.2.1;have HF:=H_ HR.o.2.2;obtain⟨oa,ocap,rfl,_⟩:=θ HO.o;have hsz:=HB.o.size;by_cases hlt:k<xs.length
  ·obtain⟨b,off,rfl,_,hb,_,hck⟩:=HCA.o k hlt
   have hckr:wr.cell? (p_ b (off+k))=some (.int .i64 xs[k]):=by rw[HB.o.cell (p:=p_ b (off+k)) hb];exact hck
   have hst:=zre xs V k hlt;have hlo:=HXS.o k hlt;have HST:=H_ hst;clear hck hst HR;by_cases hn:0<=xs[k]
   ·have HF2:Q_ (Γ xs V=(Γ (xs.drop (k+1)) V).map ((acc++[xs[k]])++·)):=by
     refine H_ ?_;rw[HF.o,HST.o,x_ hn];cases Γ (xs.drop (k+1)) V<;>simp
    clear HST;go_wp2_with (at_builtin;refine zap wr rfl _ _ 22 rfl 3 (0:Int) 1 8 underlying22 ω rfl (by decide) (by decide) rfl HO.o 1 (δ [xs[k]]) rfl rfl (Ι _) rfl ?c1 ?c2 ?_)
    case c1=>omega
    case c2=>omega
    intro v1 w1 ho1 hout1 _;have hs1:=hout1.size;have HO1:=H_ ho1;have HB1:=H_ (ε HB.o hout1 (le_ _) HB.o.size);clear ho1 hout1;go_wp2;go_roundw
    (case rel=>exact⟨k+1,acc++[xs[k]],by omega,by go_num,by simp;omega,H_ ⟨by rw[n_,zaa];exact HO1.o,HB1.o,HF2.o⟩⟩);case measure=>simp[intOf];omega
   ·(obtain⟨j,hj,hjn⟩:∃ j:Nat,j<3/\(-1:Int)-xs[k]=j:=⟨(-1-xs[k]).toNat,by omega,by omega⟩);(have hvj:zbf xs[k]=j:=by simp[zbf,hjn]);rw[hvj]at HST;obtain⟨ua,uc,hu1,hu2⟩:=HCC.o j hj;have hbd:=HV.o.bd j;have⟨Q,hQ⟩:=ex_ (V.getD j []);rw[<-hQ]at HST hu1 hu2 hbd;clear hQ;have hu1r:wr.cell? (p_ cb (co+j))=some (.slice ua (Q).length uc):=by rw[HB.o.cell (p:=p_ cb (co+j)) hcb];exact hu1
    (have HU:=H_ (hu2.below HB.o);have hj3:(j:Int)<3:=by omega);clear hu1 hu2;by_cases he:Q=[]
    ·have HF2:Q_ (Γ xs V=none):=by
      refine H_ ?_;rw[HF.o,HST.o,m_ hn,x_ he];rfl
     rw[he]at hu1r;clear HST;go_wp2;refine d_ (v:=.tuple #[.slice (q_ wr 0) 0 0,.bool false]) (by simp[results,results154,go_sem]) rfl ⟨_,_,rfl,?_⟩;rw[HF2.o];have hl:=(ς 1 3 wr (δ []) 0 (by omega) rfl).sl;exact⟨HB.o.alloc (by omega) _,rfl,⟨[],(zg6 hl hsz (by simp):_)⟩,λout h=>by cases h⟩
    ·(have hlen:0<(Q).length:=b3_.2 he)
     have HF2:Q_ (Γ xs V=(Γ (xs.drop (k+1)) V).map ((acc++Q)++·)):=by
      refine H_ ?_;rw[HF.o,HST.o,m_ hn,m_ he];cases Γ (xs.drop (k+1)) V<;>simp
     (have hne:(((Q).length:Int)==0)=false:=by simp;omega);clear HST he;go_wp2_with (at_builtin;refine Μ rfl _ _ 22 rfl 3 (0:Int) 1 8 underlying22 ω rfl (by decide) (by decide) rfl HO.o rfl HU.o (Ι _) ?c1 ?c2 ?_)
     case c1=>omega
     intro v1 w1 ho1 _ hout1 _;have hs1:=hout1.size;have HO1:=H_ ho1;have HB1:=H_ (ε HB.o hout1 (le_ _) HB.o.size);clear ho1 hout1;go_wp2;go_roundw
     (case rel=>exact⟨k+1,acc++Q,by omega,by go_num,by simp only[n_];omega,H_ ⟨by rw[n_,zaa];exact HO1.o,HB1.o,HF2.o⟩⟩);case measure=>simp[intOf];omega
  ·obtain rfl:k=xs.length:=by omega
   have HF2:Q_ (Γ xs V=some acc):=by
    refine H_ ?_;rw[HF.o,zpm _ _ _ (le_ _)];simp
   clear HR HF;go_wp2;refine d_ (v:=.tuple #[.slice oa acc ocap,.bool true]) (by simp[results,results154,go_sem]) rfl ⟨_,_,rfl,?_⟩;rw[HF2.o];exact⟨HB.o,rfl,⟨acc,HO.o.sl⟩,λout h=>by injection h with h;subst h;exact HO.o⟩
def zc2:List (List Int):=[[],[],[]]
def zmy(e:List Int)(m:Mv):Option (List Int):=
 let k:=m.at_.toNat
 let c:=(zcn (e.take (k+1)).reverse 1).getD 0
 ((Α (Τ (Ν m.which.toNat (!m.back))) (Τ ((e.drop (k+1-c)).take c)) zc2).bind (Γ (Ν m.which.toNat m.back))).bind λpart=>
  if (e.take (k+1-c)++part++e.drop (k+1)).length<=40 then some (e.take (k+1-c)++part++e.drop (k+1)) else none
def Ψ(e:List Int)(m:Mv):Option (List Int):=
 if ν e&&isR m.which&&inB m.at_ 0 (e.length-1) then zmy e m else none
theorem zul(h:isR m.which=false):Ψ e m=none:=by simp[Ψ,h]
theorem zuj(h:inB m.at_ 0 (e.length-1)=false):Ψ e m=none:=by simp[Ψ,h]
theorem zt0(a b c:List Int):((a++b++c).drop a.length).take b.length=b:=by simp
structure zke(e:List Int)(m:Mv)(k:Nat)(pre rest:List Int)(t:KT)(p:KT)(q:List Int):Prop where
 eq:e=pre++t.post++rest
 keq:pre.length+t.size=k+1
 ok:t.ok 0=true
 sz:t.size<=40
 span:zcn (e.take (k+1)).reverse 1=some t.size
 pok:p.ok (-3)=true
 psz:p.size<=40
 from_:p.post=Ν m.which.toNat (!m.back)
 to_:q=Ν m.which.toNat m.back
 qlo:∀ i (h:i<q.length),-3<=q[i]
 ql:q.length<=40
 el:e.length<=40
 mv:Ψ e m=((Α p t zc2).bind (Γ q)).bind λpart=>if (pre++part++rest).length<=40 then some (pre++part++rest) else none
 val:∀ V part,Α p t zc2=some V->Γ q V=some part->1<=part.length/\part.length<=1600/\ν (pre++part++rest)=decide ((pre++part++rest).length<=40)
theorem zku {lo:Int}(hlo:lo<=0):∀ (t:KT),t.ok lo=true->∀ x∈t.post,lo<=x
 | .leaf n,h,x,hx=>by
  simp only[KT.ok,j_,t_]at h;simp only[KT.post,k_]at hx;omega
 | .star t,h,x,hx=>by
  simp only[KT.ok]at h;simp only[KT.post,E_,k_]at hx;rcases hx with hx|hx
  ·exact zku hlo t h x hx
  ·omega
 | .bin p a b,h,x,hx=>by
  simp only[KT.ok,j_]at h;simp only[KT.post,E_,k_]at hx;rcases hx with(hx|hx)|hx
  ·exact zku hlo a h.1 x hx
  ·exact zku hlo b h.2 x hx
  ·have:19<=x:=by cases p<;>simp[KT.op] at hx<;>omega
   omega
theorem zng {k:Nat}(hv:ν e=true)(hr:isR m.which=true)(hk:m.at_=k)(hlt:k<e.length):
  ∃ pre rest t p q,zke e m k pre rest t p q:=by
 obtain⟨pre,rest,t,h1,h2,h3,h4,h5⟩:=z06 hv k hlt;have hn:m.which.toNat<21:=by simp[isR,inB] at hr;omega
 obtain⟨r1,r2,r3⟩:=zsr _ hn (!m.back);obtain⟨s1,s2,s3⟩:=zsr _ hn m.back;have hin:inB m.at_ 0 (e.length-1)=true:=by simp[inB,hk];omega
 have hel:e.length<=40:=by
  simp only[ν,j_,t_]at hv;exact hv.1.2
 have hb:k+1-t.size=pre.length:=by omega
 have ht1:e.take (k+1-t.size)=pre:=by rw[hb,h1,Z_,bl_]
 have ht2:(e.drop (k+1-t.size)).take t.size=t.post:=by rw[hb,h1,<-t.post_length,zt0]
 have ht3:e.drop (k+1)=rest:=by
  have:k+1=(pre++t.post).length:=by rw[n_,t.post_length];omega
  rw[this,h1,ch_]
 refine⟨pre,rest,t,Τ (Ν m.which.toNat (!m.back)),Ν m.which.toNat m.back,⟨h1,h2,h3,h4,h5,r1,by rw[<-zaz,r2];exact r3,r2,rfl,?_,s3,hel,?_,?_⟩⟩
 ·intro i h
  have hm:=u_ h;have ha:=zku (by decide) _ s1;rw[s2]at ha;exact ha _ hm
 ·rw[Ψ,hv,hr,hin]
  simp only[Bool.and_self,d6_];unfold zmy;simp only[hk,b0_,h5,ac_,ht1,ht2,ht3,zee h3]
 ·intro V part g1 g2
  have hV:=zh3 _ t _ V h3 h4 GV.zero g1;have hl:=zli V hV _ _ g2;rw[<-s2]at g2;obtain⟨t',g3,g4⟩:=zkh V hV _ _ s1 g2;subst g4;have:=t'.size_pos;refine⟨by rw[t'.post_length];omega,by omega,zy3 h3 g3 (by rw[<-h1];exact hv)⟩
end Go.Proofs.YtfnnhimopokpnaaGreatDoor
