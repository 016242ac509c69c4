/- Lemmas for this seat; no condition. -/
import Derived.Test.YtfnnhimopokpnaaGreatDoorHDAI
namespace Go.Proofs.YtfnnhimopokpnaaGreatDoor
open Go.RowKit Proofs.Tryz
set_option maxRecDepth 100000
set_option maxHeartbeats 0
set_option linter.all false
variable {n x f i:Nat} {rows y e:List Int} {p t q t0:KT}
structure In3 where
 kind:Int
 arg:Int
 tO:Int
def endI:In3:=⟨3,0,0⟩
def insB(n:Int)(x:In3):Bool:=
 if x.kind=0 then inB x.arg 16 18&&decide (x.tO=0)
 else if x.kind=1 then inB x.arg 0 15&&inB x.tO 0 (n-1)
 else if x.kind=2 then decide (x.arg=0)&&inB x.tO 0 (n-1)
 else decide (x.kind=3)&&decide (x.arg=0)&&decide (x.tO=0)
def insAt(c:List In3)(i:Nat):In3:=c.getD i endI
structure Code0(c:List In3):Prop where
 pos:1<=c.length
 most:c.length<=40
 ins:∀ i,i<c.length->insB c.length (insAt c i)=true
 last:2<=(insAt c (c.length-1)).kind
theorem insB_to {n:Int} {x:In3}(h:insB n x=true)(hk:x.kind=1\/x.kind=2):0<=x.tO/\x.tO<n:=by
 unfold insB at h;rw[m_ (by omega)]at h
 split at h
 ·simp only[j_,inB,t_]at h;omega
 ·rw[x_ (by omega)]at h
  simp only[j_,inB,t_]at h;omega
theorem Code0.to_lt {c:List In3}(h:Code0 c){i:Nat}(hi:i<c.length)(hk:(insAt c i).kind=1\/(insAt c i).kind=2):(insAt c i).tO.toNat<c.length:=by
 have:=insB_to (h.ins i hi) hk;omega
theorem Code0.succ_lt {c:List In3}(h:Code0 c){i:Nat}(hi:i<c.length)(hk:(insAt c i).kind<2):i+1<c.length:=by
 have:=h.last;refine Nat.lt_of_le_of_ne (by omega) λe=>?_
 have:i=c.length-1:=by omega
 subst this;omega
structure Mach where
 act:Int->Nat->Nat
 tst:Int->Nat->Bool
def runS{σ:Type}(step:σ->Option σ):Nat->σ->Option (σ × Nat)
 | 0,_=>none
 | f+1,s=>match step s with
  | none=>some (s,1)
  | some p=>(runS step f p).map λr=>(r.1,r.2+1)
section
variable {σ:Type} {step:σ->Option σ}
theorem runS_step {s p:σ}(h:step s=some p){f:Nat}:runS step (f+1) s=(runS step f p).map λr=>(r.1,r.2+1):=by rw[runS,h]
theorem runS_end {s:σ}(h:step s=none){f:Nat}:runS step (f+1) s=some (s,1):=by rw[runS,h]
def confS(step:σ->Option σ)(s:σ):Nat->σ
 | 0=>s
 | i+1=>match step s with
  | none=>s
  | some p=>confS step p i
end
def stepC(M:Mach)(c:List In3)(p:Nat × Nat):Option (Nat × Nat):=
 let x:=insAt c p.1
 if x.kind=0 then some (p.1+1,M.act x.arg p.2)
 else if x.kind=1 then some (if M.tst x.arg p.2 then p.1+1 else x.tO.toNat,p.2)
 else if x.kind=2 then some (x.tO.toNat,p.2)
 else none
section
inductive Star{σ:Type}(R:σ->σ->Prop):σ->σ->Prop where
 | refl (s:σ):Star R s s
 | step {s u t:σ}:R s u->Star R u t->Star R s t
namespace Star
variable {σ:Type} {R S:σ->σ->Prop}
theorem one {s t:σ}(h:R s t):Star R s t:=.step h (.refl _)
theorem trans {s u t:σ}(h:Star R s u)(k:Star R u t):Star R s t:=by
 induction h with
 | refl=>exact k
 | step h1 _ ih=>exact .step h1 (ih k)
theorem mono(hm:∀ s t,R s t->S s t){s t:σ}(h:Star R s t):Star S s t:=by
 induction h with
 | refl=>exact .refl _
 | step h1 _ ih=>exact .step (hm _ _ h1) ih
theorem last {s t:σ}(h:Star R s t):s=t\/∃ u,Star R s u/\R u t:=by
 induction h with
 | refl=>exact .inl rfl
 | step h1 h2 ih=>
  rcases ih with rfl|⟨u,h3,h4⟩
  ·exact .inr ⟨_,.refl _,h1⟩
  ·exact .inr ⟨u,.step h1 h3,h4⟩
end Star
def den{σ:Type}(L:Int->σ->σ->Prop):KT->σ->σ->Prop
 | .leaf n=>L n
 | .star t=>Star (den L t)
 | .bin p a b=>λs t=>if p then den L a s t\/den L b s t else ∃ u,den L a s u/\den L b u t
structure Leaves{σ:Type}(L:Int->σ->σ->Prop):Prop where
 zero:∀ s t,¬L 0 s t
 one:∀ s t,L 15 s t↔s=t
end
noncomputable def bitsN:Nat->(Nat->Prop)->Nat
 | 0,_=>0
 | n+1,p=>bitsN n p+(open Classical in if p n then 2 ^ n else 0)
theorem bitsN_lt(p:Nat->Prop):∀ n,bitsN n p<2 ^ n
 | 0=>by simp[bitsN]
 | n+1=>by
  have:=bitsN_lt p n;rw[bitsN,Nat.pow_succ]
  split<;>omega
theorem bitsN_bit(p:Nat->Prop)(k:Nat):∀ n,(bitsN n p).testBit k=true↔k<n/\p k
 | 0=>by simp[bitsN]
 | n+1=>by
  have hlt:=bitsN_lt p n;have ih:=bitsN_bit p k n;rw[bitsN];by_cases hp:p n
  ·rw[x_ hp]
   by_cases hk:k=n
   ·subst hk
    rw[Nat.add_comm,Nat.testBit_two_pow_add_eq,cp_ hlt];simp[hp]
   ·by_cases hkn:k<n
    ·rw[Nat.add_comm,Nat.testBit_two_pow_add_gt hkn,ih]
     constructor
     ·rintro⟨_,h⟩;exact⟨by omega,h⟩
     ·rintro⟨_,h⟩;exact⟨by omega,h⟩
    ·(have h2:bitsN n p+2 ^ n<2 ^ k:=T_ (by rw[Nat.pow_succ];omega:_<2 ^ (n+1)) (ah_ (by omega) (by omega)));rw[cp_ h2]
     constructor
     ·intro h;cases h
     ·rintro⟨h,_⟩;omega
  ·rw[m_ hp,cj_,ih]
   constructor
   ·rintro⟨_,h⟩;exact⟨by omega,h⟩
   ·rintro⟨_,h⟩
    refine⟨?_,h⟩;by_cases hk:k=n
    ·subst hk;exact absurd h hp
    ·omega
theorem bitsN_eq {p:Nat->Prop}(hx:x<2 ^ n)(h:∀ k,k<n->(x.testBit k=true↔p k)):x=bitsN n p:=by
 apply Nat.eq_of_testBit_eq;intro k;rw[cm_,bitsN_bit];by_cases hk:k<n
 ·simp[h k hk,hk]
 ·rw[cp_ (T_ hx (ah_ (by omega) (by omega)))]
  simp[hk]
noncomputable def rowsR(n:Nat)(R:Nat->Nat->Prop):List Int:=(List.range n).map λs=>((bitsN n (R s):Nat):Int)
theorem rowsR_length(n:Nat)(R:Nat->Nat->Prop):(rowsR n R).length=n:=by simp[rowsR]
theorem rowsR_get(n:Nat)(R:Nat->Nat->Prop)(s:Nat)(h:s<(rowsR n R).length):(rowsR n R)[s]=((bitsN n (R s):Nat):Int):=by simp[rowsR]
theorem or_add_and:∀ (n a b:Nat),a<2 ^ n->(a ||| b)+(a &&& b)=a+b
 | 0,a,b,h=>by
  have:a=0:=by simpa using h
  subst this;simp
 | n+1,a,b,h=>by
  have ih:=or_add_and n (a/2) (b/2) (by rw[Nat.pow_succ] at h;omega);have h1:(a ||| b)/2=a/2 ||| b/2:=Nat.or_div_two
  have h2:(a &&& b)/2=a/2 &&& b/2:=Nat.and_div_two
  have h3:(a ||| b)%2+(a &&& b)%2=a%2+b%2:=by
   have x1:=@Nat.or_mod_two_eq_one a b;have x2:=@Nat.and_mod_two_eq_one a b;have:=bg_ a;have:=bg_ b;have:=bg_ (a ||| b);have:=bg_ (a &&& b);omega
  omega
def imgT(rows:List Int)(set:Nat):Nat->Nat
 | 0=>0
 | k+1=>if set.testBit k then imgT rows set k ||| (rows.getD k 0).toNat else imgT rows set k
theorem imgT_bit(rows:List Int)(set t:Nat):∀ k,(imgT rows set k).testBit t=true↔∃ s,s<k/\set.testBit s=true/\((rows.getD s 0).toNat).testBit t=true
 | 0=>by simp[imgT]
 | k+1=>by
  have ih:=imgT_bit rows set t k;rw[imgT]
  split
  ·rename_i hb
   rw[c9_,cy_,ih]
   constructor
   ·rintro(⟨s,h1,h2,h3⟩|h)
    ·exact⟨s,by omega,h2,h3⟩
    ·exact⟨k,by omega,hb,h⟩
   ·rintro⟨s,h1,h2,h3⟩
    by_cases hs:s=k
    ·subst hs;exact .inr h3
    ·exact .inl ⟨s,by omega,h2,h3⟩
  ·rename_i hb
   rw[ih]
   constructor
   ·rintro⟨s,h1,h2,h3⟩;exact⟨s,by omega,h2,h3⟩
   ·rintro⟨s,h1,h2,h3⟩
    by_cases hs:s=k
    ·subst hs;exact absurd h2 hb
    ·exact⟨s,by omega,h2,h3⟩
theorem imgT_lt(h:∀ s (hs:s<rows.length),rows[s].toNat<2 ^ n)(set:Nat):∀ k,imgT rows set k<2 ^ n
 | 0=>cz_ n
 | k+1=>by
  have ih:=imgT_lt h set k;rw[imgT]
  split
  ·apply ce_ ih
   by_cases hk:k<rows.length
   ·simp only[List.getD,l_ hk,ac_];exact h k hk
   ·simp only[List.getD,dl_ (Nat.le_of_not_lt hk),Option.getD_none];exact cz_ n
  ·exact ih
theorem imgT_rows {R:Nat->Nat->Prop}(hr:rows=rowsR n R)(set:Nat):imgT rows set n=bitsN n λt=>∃ s,s<n/\set.testBit s=true/\R s t:=by
 subst hr;refine bitsN_eq (imgT_lt (λs hs=>?_) set n) λt ht=>?_
 ·rw[rowsR_get];exact bitsN_lt _ n
 ·rw[imgT_bit]
  refine exists_congr λs=>?_
  constructor
  ·rintro⟨h1,h2,h3⟩
   have hs:s<(rowsR n R).length:=by rw[rowsR_length];exact h1
   simp only[List.getD,l_ hs,ac_,rowsR_get,b0_,bitsN_bit]at h3;exact⟨h1,h2,h3.2⟩
  ·rintro⟨h1,h2,h3⟩
   have hs:s<(rowsR n R).length:=by rw[rowsR_length];exact h1
   simp only[List.getD,l_ hs,ac_,rowsR_get,b0_,bitsN_bit];exact⟨h1,h2,ht,h3⟩
def Closed(n:Nat)(R:Nat->Nat->Prop):Prop:=∀ s t,s<n->R s t->t<n
theorem Closed.star {R:Nat->Nat->Prop}(h:Closed n R):Closed n (Star R):=by
 intro s t hs hst
 induction hst with
 | refl=>exact hs
 | step h1 _ ih=>exact ih (h _ _ hs h1)
structure Way(n:Nat)(R:Nat->Nat->Prop)(k set:Nat):Prop where
 lt:set<2 ^ n
 self:set.testBit k=true
 reach:∀ t,set.testBit t=true->Star R k t
theorem Way.next {R:Nat->Nat->Prop}(hr:rows=rowsR n R){k set:Nat}(h:Way n R k set):Way n R k (set ||| imgT rows set n) where
 lt:=ce_ h.lt (by rw[imgT_rows hr];exact bitsN_lt _ _)
 self:=by rw[c9_,h.self];rfl
 reach:=λt ht=>by
  rw[c9_,cy_,imgT_rows hr,bitsN_bit]at ht;rcases ht with ht|⟨_,s,_,h2,h3⟩
  ·exact h.reach t ht
  ·exact(h.reach s h2).trans (.one h3)
theorem Way.done {R:Nat->Nat->Prop}(hr:rows=rowsR n R)(hR:Closed n R){k set:Nat}(hk:k<n)(h:Way n R k set)(he:set ||| imgT rows set n=set):set=bitsN n (Star R k):=by
 refine bitsN_eq h.lt λt _=>⟨h.reach t,λhs=>?_⟩
 have key:∀ s t,Star R s t->s<n->set.testBit s=true->set.testBit t=true:=by
  intro s t hst
  induction hst with
  | refl=>exact λ_ h=>h
  | @step s u t h1 _ ih=>
   intro hs hb;refine ih (hR _ _ hs h1) ?_;rw[<-he,c9_,cy_,imgT_rows hr,bitsN_bit];exact .inr ⟨hR _ _ hs h1,s,hs,hb,h1⟩
 exact key k t hs hk h.self
inductive PT where
 | one (w:Int)
 | seq (a b:PT)
 | ite (t:Int) (a b:PT)
 | wh (t:Int) (a:PT)
def PT.post:PT->List Int
 | .one w=>[w]
 | .seq a b=>a.post++b.post++[30]
 | .ite t a b=>a.post++b.post++[100+t]
 | .wh t a=>a.post++[200+t]
def PT.ok:PT->Bool
 | .one w=>inB w 15 18
 | .seq a b=>a.ok&&b.ok
 | .ite t a b=>inB t 0 15&&a.ok&&b.ok
 | .wh t a=>inB t 0 15&&a.ok
def Steps(M:Mach)(c:List In3):Nat × Nat->Nat × Nat->Prop:=Star λp q=>stepC M c p=some q
def endsK:KT->Nat
 | .leaf n=>if 16<=n then 0 else n.toNat
 | .star _=>15
 | .bin p a b=>if p then endsK a ||| endsK b else endsK a &&& endsK b
def isOne:KT->Bool
 | .leaf n=>decide (n=15)
 | _=>false
def behK(p q:KT):KT:=if isOne p then q else .bin false p q
def ptK:KT->Nat->Int->KT->Prop
 | .leaf n,_,c,p=>n=c/\p=.leaf 15
 | .star a,α,c,p=>∃ q,ptK a α c q/\p=behK q (.star a)
 | .bin o a b,α,c,p=>if o then ptK a α c p\/ptK b α c p else (∃ q,ptK a α c q/\p=behK q b)\/((endsK a).testBit α=true/\ptK b α c p)
theorem ptK_seq(a b:KT)(α:Nat)(c:Int)(p:KT):ptK (.bin false a b) α c p↔(∃ q,ptK a α c q/\p=behK q b)\/((endsK a).testBit α=true/\ptK b α c p):=by simp[ptK]
theorem ptK_or(a b:KT)(α:Nat)(c:Int)(p:KT):ptK (.bin true a b) α c p↔ptK a α c p\/ptK b α c p:=by simp[ptK]
theorem ptK_star(a:KT)(α:Nat)(c:Int)(p:KT):ptK (.star a) α c p↔∃ q,ptK a α c q/\p=behK q (.star a):=by simp[ptK]
theorem ptK_leaf(n:Int)(α:Nat)(c:Int)(p:KT):ptK (.leaf n) α c p↔n=c/\p=.leaf 15:=by simp[ptK]
theorem one_eq(h:isOne p=true):p=.leaf 15:=by
 cases p with
 | leaf n=>simp[isOne] at h;rw[h]
 | star _=>cases h
 | bin _ _ _=>cases h
inductive Dt:KT->Prop where
 | leaf (n:Int):Dt (.leaf n)
 | seq {p q:KT}:Dt p->Dt q->Dt (.bin false p q)
 | ite {t:Int} {a b:KT}:0<=t->t<=15->Dt a->Dt b->Dt (.bin true (.bin false (.leaf t) a) (.bin false (.leaf (15-t)) b))
 | wh {t:Int} {a:KT}:0<=t->t<=15->Dt a->Dt (.bin false (.star (.bin false (.leaf t) a)) (.leaf (15-t)))
 | whp {t:Int} {p a:KT}:0<=t->t<=15->Dt p->Dt a->Dt (.bin false (.bin false p (.star (.bin false (.leaf t) a))) (.leaf (15-t)))
theorem pt_guard {t:Int}(ht:t<=15){a p:KT}{α:Nat}{c:Int}(hc:16<=c):ptK (.bin false (.leaf t) a) α c p↔(endsK (.leaf t)).testBit α=true/\ptK a α c p:=by
 rw[ptK_seq]
 constructor
 ·rintro(⟨q,h,_⟩|h)
  ·rw[ptK_leaf]at h;omega
  ·exact h
 ·exact .inr
theorem pt_loop {t:Int}(ht:t<=15){a p:KT}{α:Nat}{c:Int}(hc:16<=c):ptK (.star (.bin false (.leaf t) a)) α c p↔(endsK (.leaf t)).testBit α=true/\∃ q,ptK a α c q/\p=behK q (.star (.bin false (.leaf t) a)):=by
 rw[ptK_star]
 constructor
 ·rintro⟨q,h,rfl⟩
  rw[pt_guard ht hc]at h;exact⟨h.1,q,h.2,rfl⟩
 ·rintro⟨h1,q,h2,rfl⟩
  exact⟨q,(pt_guard ht hc).2 ⟨h1,h2⟩,rfl⟩
theorem beh_seq_dt {b:KT}(hq:Dt q)(hb:Dt b):Dt (behK q b):=by
 unfold behK
 split
 ·exact hb
 ·exact .seq hq hb
theorem beh_loop_dt {t:Int}(h0:0<=t)(h1:t<=15){q a:KT}(hq:Dt q)(ha:Dt a):Dt (behK (behK q (.star (.bin false (.leaf t) a))) (.leaf (15-t))):=by
 unfold behK
 split
 ·simp only[isOne,Bool.false_eq_true,if_false];exact .wh h0 h1 ha
 ·simp only[isOne,Bool.false_eq_true,if_false];exact .whp h0 h1 hq ha
theorem Dt.part {T:KT}(h:Dt T):∀ {α:Nat} {c:Int} {p:KT},16<=c->ptK T α c p->Dt p:=by
 induction h with
 | leaf n=>
  intro α c p _ g;rw[ptK_leaf]at g;rw[g.2];exact .leaf _
 | seq _ hq ihp ihq=>
  intro α c p hc g;rw[ptK_seq]at g;rcases g with⟨x,g,rfl⟩|⟨_,g⟩
  ·exact beh_seq_dt (ihp hc g) hq
  ·exact ihq hc g
 | ite h0 h1 _ _ iha ihb=>
  intro α c p hc g;rw[ptK_or,pt_guard h1 hc,pt_guard (by omega) hc]at g;rcases g with⟨_,g⟩|⟨_,g⟩
  ·exact iha hc g
  ·exact ihb hc g
 | wh h0 h1 ha iha=>
  intro α c p hc g;rw[ptK_seq]at g;rcases g with⟨x,g,rfl⟩|⟨_,g⟩
  ·rw[pt_loop h1 hc]at g
   obtain⟨_,q,g,rfl⟩:=g;exact beh_loop_dt h0 h1 (iha hc g) ha
  ·rw[ptK_leaf]at g;omega
 | whp h0 h1 _ ha ihp iha=>
  intro α c p hc g;rw[ptK_seq]at g;rcases g with⟨x,g,rfl⟩|⟨_,g⟩
  ·rw[ptK_seq]at g
   rcases g with⟨y,g,rfl⟩|⟨_,g⟩
   ·exact beh_loop_dt h0 h1 (ihp hc g) ha
   ·rw[pt_loop h1 hc]at g
    obtain⟨_,q,g,rfl⟩:=g;exact beh_loop_dt h0 h1 (iha hc g) ha
  ·rw[ptK_leaf]at g;omega
inductive Tr where
 | fin (α:Fin 4)
 | step (α:Fin 4) (c:Fin 3) (r:Tr)
def Tr.last:Tr->Tr
 | .fin α=>.fin α
 | .step _ _ r=>r.last
theorem behK_ok(hp:p.ok 0=true)(hq:q.ok 0=true):(behK p q).ok 0=true:=by
 unfold behK
 split
 ·exact hq
 ·simp[KT.ok,hp,hq]
theorem ptK_ok:∀ {t:KT},t.ok 0=true->∀ {α:Nat} {c:Int} {p:KT},ptK t α c p->p.ok 0=true
 | .leaf n,_,α,c,p,h=>by
  rw[ptK_leaf]at h;rw[h.2];rfl
 | .bin true a b,ht,α,c,p,h=>by
  simp only[KT.ok,j_]at ht;rw[ptK_or]at h;exact h.elim (ptK_ok ht.1) (ptK_ok ht.2)
 | .bin false a b,ht,α,c,p,h=>by
  simp only[KT.ok,j_]at ht;rw[ptK_seq]at h;rcases h with⟨q,h,rfl⟩|⟨_,h⟩
  ·exact behK_ok (ptK_ok ht.1 h) ht.2
  ·exact ptK_ok ht.2 h
 | .star a,ht,α,c,p,h=>by
  rw[ptK_star]at h;obtain⟨q,h,rfl⟩:=h;exact behK_ok (ptK_ok (t:=a) ht h) ht
def clK:KT->List KT
 | .leaf n=>if 16<=n then [.leaf 15] else []
 | .star a=>(clK a).map λq=>behK q (.star a)
 | .bin o a b=>if o then clK a++clK b else ((clK a).map λq=>behK q b)++clK b
theorem cl_or(a b:KT):clK (.bin true a b)=clK a++clK b:=by simp[clK]
theorem cl_seq(a b:KT):clK (.bin false a b)=((clK a).map λq=>behK q b)++clK b:=by simp[clK]
theorem cl_star(a:KT):clK (.star a)=(clK a).map λq=>behK q (.star a):=rfl
theorem pt_cl:∀ {t:KT} {α:Nat} {c:Int} {p:KT},16<=c->ptK t α c p->p∈clK t
 | .leaf n,α,c,p,hc,h=>by
  rw[ptK_leaf]at h;obtain⟨rfl,rfl⟩:=h;simp[clK,hc]
 | .star a,α,c,p,hc,h=>by
  rw[ptK_star]at h;obtain⟨q,h,rfl⟩:=h;exact aa_.2 ⟨q,pt_cl hc h,rfl⟩
 | .bin true a b,α,c,p,hc,h=>by
  rw[ptK_or]at h;rw[cl_or,E_];exact h.imp (pt_cl hc) (pt_cl hc)
 | .bin false a b,α,c,p,hc,h=>by
  rw[ptK_seq]at h;rw[cl_seq,E_];rcases h with⟨q,h,rfl⟩|⟨_,h⟩
  ·exact .inl (aa_.2 ⟨q,pt_cl hc h,rfl⟩)
  ·exact .inr (pt_cl hc h)
theorem beh_pt {q' b:KT} {α:Nat} {c:Int}(h:ptK (behK q' b) α c p):ptK b α c p\/∃ r,ptK q' α c r/\p=behK r b:=by
 unfold behK at h
 split at h
 ·exact .inl h
 ·rw[ptK_seq]at h
  rcases h with⟨r,h,rfl⟩|⟨_,h⟩
  ·exact .inr ⟨r,h,rfl⟩
  ·exact .inl h
theorem cl_pt:∀ {t q:KT} {α:Nat} {c:Int} {p:KT},16<=c->q∈clK t->ptK q α c p->p∈clK t
 | .leaf n,q,α,c,p,hc,hq,h=>by
  simp only[clK]at hq
  split at hq
  ·simp only[k_]at hq
   subst hq;rw[ptK_leaf]at h;omega
  ·cases hq
 | .star a,q,α,c,p,hc,hq,h=>by
  rw[cl_star,aa_]at hq;obtain⟨q',hq',rfl⟩:=hq;rcases beh_pt h with h|⟨r,h',rfl⟩
  ·exact pt_cl hc h
  ·exact aa_.2 ⟨r,cl_pt (t:=a) hc hq' h',rfl⟩
 | .bin true a b,q,α,c,p,hc,hq,h=>by
  rw[cl_or,E_]at hq ⊢;exact hq.imp (λhq=>cl_pt hc hq h) (λhq=>cl_pt hc hq h)
 | .bin false a b,q,α,c,p,hc,hq,h=>by
  rw[cl_seq,E_,aa_]at hq;rw[cl_seq,E_];rcases hq with⟨q',hq',rfl⟩|hq
  ·rcases beh_pt h with h|⟨r,h',rfl⟩
   ·exact .inr (pt_cl hc h)
   ·exact .inl (aa_.2 ⟨r,cl_pt hc hq' h',rfl⟩)
  ·exact .inr (cl_pt hc hq h)
theorem cl_length:∀ t:KT,(clK t).length<=t.size
 | .leaf n=>by simp only[clK];split<;>simp[KT.size]
 | .star a=>by have:=cl_length a;simp[clK,KT.size];omega
 | .bin true a b=>by have:=cl_length a;have:=cl_length b;simp[clK,KT.size];omega
 | .bin false a b=>by have:=cl_length a;have:=cl_length b;simp[clK,KT.size];omega
theorem behK_size(p q:KT):(behK p q).size<=p.size+q.size+1:=by
 unfold behK
 split
 ·omega
 ·simp[KT.size]
theorem cl_size:∀ {t q:KT},q∈clK t->q.size<=t.size*(t.size+1)
 | .leaf n,q,h=>by
  simp only[clK]at h
  split at h
  ·simp only[k_]at h;subst h;simp[KT.size]
  ·cases h
 | .star a,q,h=>by
  rw[cl_star,aa_]at h;obtain⟨q',h,rfl⟩:=h;have h1:=cl_size h;have h2:=behK_size q' (.star a);simp only[KT.size]at h2 ⊢
  have:(a.size+1)*(a.size+1+1)=a.size*(a.size+1)+(2*a.size+2):=by
   simp only[Nat.mul_add,Nat.add_mul];omega
  omega
 | .bin true a b,q,h=>by
  rw[cl_or,E_]at h;have hab:∀ x,x<=a.size+b.size+1->x*(x+1)<=(a.size+b.size+1)*(a.size+b.size+1+1):=λx hx=>bk_ hx (by omega)
  simp only[KT.size];rcases h with h|h
  ·exact J_ (cl_size h) (hab _ (by omega))
  ·exact J_ (cl_size h) (hab _ (by omega))
 | .bin false a b,q,h=>by
  rw[cl_seq,E_,aa_]at h;simp only[KT.size]
  have e:(a.size+b.size+1)*(a.size+b.size+1+1)=a.size*(a.size+1)+(a.size*(b.size+1)+(b.size+1)*(a.size+b.size+1+1)):=by
   rw[show a.size+b.size+1=a.size+(b.size+1) by omega,Nat.add_mul,show a.size+(b.size+1)+1=a.size+1+(b.size+1) by omega,Nat.mul_add a.size,dw_]
  have e2:b.size+1<=(b.size+1)*(a.size+b.size+1+1):=Nat.le_mul_of_pos_right _ (by omega);rcases h with⟨q',h,rfl⟩|h
  ·have h1:=cl_size h
   have h2:=behK_size q' b;omega
  ·have h1:=cl_size h
   refine J_ h1 (J_ (bk_ (by omega:b.size<=a.size+b.size+1) (by omega)) (le_ _))
theorem cl_ok:∀ {t:KT},t.ok 0=true->∀ q∈clK t,q.ok 0=true
 | .leaf n,_,q,h=>by
  simp only[clK]at h
  split at h
  ·simp only[k_]at h;subst h;rfl
  ·cases h
 | .star a,ht,q,h=>by
  rw[cl_star,aa_]at h;obtain⟨q',h,rfl⟩:=h;exact behK_ok (cl_ok (t:=a) ht _ h) ht
 | .bin true a b,ht,q,h=>by
  simp only[KT.ok,j_]at ht;rw[cl_or,E_]at h;exact h.elim (cl_ok ht.1 q) (cl_ok ht.2 q)
 | .bin false a b,ht,q,h=>by
  simp only[KT.ok,j_]at ht;rw[cl_seq,E_,aa_]at h;rcases h with⟨q',h,rfl⟩|h
  ·exact behK_ok (cl_ok ht.1 _ h) ht.2
  ·exact cl_ok ht.2 q h
theorem nodup_len {α:Type}:∀ (xs L:List α),xs.Nodup->(∀ x∈xs,x∈L)->xs.length<=L.length
 | [],_,_,_=>by simp
 | x :: xs,L,hn,h=>by
  obtain⟨a,b,rfl⟩:=List.append_of_mem (h x (by simp));rw[List.nodup_cons]at hn
  have:=nodup_len xs (a++b) hn.2 λy hy=>by
   have:=h y (by simp[hy]);simp only[E_,N_]at this ⊢;rcases this with h1|rfl|h1
   ·exact .inl h1
   ·exact absurd hy hn.1
   ·exact .inr h1
  simp at this ⊢;omega
def ltL:List Int->List Int->Bool
 | [],[]=>false
 | [],_ :: _=>true
 | _ :: _,[]=>false
 | a :: r,b :: s=>if a<b then true else if b<a then false else ltL r s
theorem ltL_irr:∀ x:List Int,ltL x x=false
 | []=>rfl
 | a :: r=>by simp[ltL,ltL_irr r]
theorem ltL_trans:∀ {x y z:List Int},ltL x y=true->ltL y z=true->ltL x z=true
 | [],[],_,h,_=>by cases h
 | [],_ :: _,[],_,h=>by cases h
 | [],_ :: _,_ :: _,_,_=>rfl
 | _ :: _,[],_,h,_=>by cases h
 | _ :: _,_ :: _,[],_,h=>by cases h
 | a :: r,b :: s,c :: t,h,k=>by
  simp only[ltL]at h k ⊢
  split at h
  ·split at k
   ·rw[x_ (by omega)]
   ·split at k
    ·cases k
    ·rw[x_ (by omega)]
  ·split at h
   ·cases h
   ·split at k
    ·rw[x_ (by omega)]
    ·split at k
     ·cases k
     ·rw[m_ (by omega),m_ (by omega)]
      exact ltL_trans h k
theorem ltL_tri:∀ {x y:List Int},ltL x y=false->ltL y x=false->x=y
 | [],[],_,_=>rfl
 | [],_ :: _,h,_=>by cases h
 | _ :: _,[],_,h=>by cases h
 | a :: r,b :: s,h,k=>by
  simp only[ltL]at h k
  split at h
  ·cases h
  ·rename_i h1
   split at h
   ·rename_i h2
    rw[x_ h2]at k;cases k
   ·rename_i h2
    rw[m_ h2,m_ h1]at k;obtain rfl:a=b:=by omega
    rw[ltL_tri h k]
theorem ltL_asym {x:List Int}(h:ltL x y=true):ltL y x=false:=by
 cases hk:ltL y x
 ·rfl
 ·have:=ltL_trans h hk
  rw[ltL_irr]at this;cases this
theorem ltL_ne {x:List Int}(h:ltL x y=true):x≠y:=λe=>by
 rw[e,ltL_irr]at h;cases h
def SortL(l:List (List Int)):Prop:=l.Pairwise λx y=>ltL x y=true
def addL(t:List Int):List (List Int)->List (List Int)
 | []=>[t]
 | x :: r=>if ltL x t then x :: addL t r else if x=t then x :: r else t :: x :: r
theorem addL_mem {t:List Int}:∀ {l:List (List Int)},y∈addL t l↔y=t\/y∈l
 | []=>by simp[addL]
 | x :: r=>by
  unfold addL
  split
  ·rw[N_,addL_mem,N_]
   constructor
   ·rintro(h|h|h)
    ·exact .inr (.inl h)
    ·exact .inl h
    ·exact .inr (.inr h)
   ·rintro(h|h|h)
    ·exact .inr (.inl h)
    ·exact .inl h
    ·exact .inr (.inr h)
  ·split
   ·rename_i h
    subst h;simp
   ·simp
theorem addL_sort {t:List Int}:∀ {l:List (List Int)},SortL l->SortL (addL t l)
 | [],_=>by simp[addL,SortL]
 | x :: r,h=>by
  unfold SortL at h;rw[a4_]at h;unfold addL
  split
  ·rename_i hx
   refine a4_.2 ⟨λy hy=>?_,addL_sort (l:=r) h.2⟩;rcases addL_mem.1 hy with rfl|hy
   ·exact hx
   ·exact h.1 y hy
  ·split
   ·exact a4_.2 h
   ·rename_i hx hne
    have htx:ltL t x=true:=by
     cases ht:ltL t x
     ·exact absurd (ltL_tri (by simpa using hx) ht) hne
     ·rfl
    refine a4_.2 ⟨λy hy=>?_,a4_.2 h⟩;rcases N_.1 hy with rfl|hy
    ·exact htx
    ·exact ltL_trans htx (h.1 y hy)
theorem sort_ext:∀ {l m:List (List Int)},SortL l->SortL m->(∀ x,x∈l↔x∈m)->l=m
 | [],[],_,_,_=>rfl
 | [],y :: m,_,_,h=>absurd ((h y).2 (au_ ..)) (by simp)
 | x :: l,[],_,_,h=>absurd ((h x).1 (au_ ..)) (by simp)
 | x :: l,y :: m,hl,hm,h=>by
  unfold SortL at hl hm;rw[a4_]at hl hm
  have hxy:x=y:=by
   have h1:=(h x).1 (au_ ..);have h2:=(h y).2 (au_ ..);rcases N_.1 h1 with e|h1
   ·exact e
   ·rcases N_.1 h2 with e|h2
    ·exact e.symm
    ·exact absurd (ltL_asym (hl.1 y h2)) (by rw[hm.1 x h1];simp)
  subst hxy
  congr 1
  refine sort_ext hl.2 hm.2 λz=>?_
  have hz:=h z;simp only[N_]at hz
  constructor
  ·intro hzl
   rcases hz.1 (.inr hzl) with rfl|h2
   ·exact absurd (hl.1 z hzl) (by simp[ltL_irr])
   ·exact h2
  ·intro hzm
   rcases hz.2 (.inr hzm) with rfl|h2
   ·exact absurd (hm.1 z hzm) (by simp[ltL_irr])
   ·exact h2
theorem sort_nodup {l:List (List Int)}(h:SortL l):l.Nodup:=List.Pairwise.imp (λh=>ltL_ne h) h
def addsL(l ts:List (List Int)):List (List Int):=ts.foldl (λo t=>addL t o) l
theorem addsL_nil(l:List (List Int)):addsL l []=l:=rfl
theorem addsL_snoc(l ts:List (List Int))(t:List Int):addsL l (ts++[t])=addL t (addsL l ts):=by simp[addsL]
theorem addsL_mem:∀ {ts l:List (List Int)},y∈addsL l ts↔y∈l\/y∈ts
 | [],l=>by simp[addsL]
 | t :: ts,l=>by
  show y∈addsL (addL t l) ts↔_
  rw[addsL_mem,addL_mem,N_]
  constructor
  ·rintro((h|h)|h)
   ·exact .inr (.inl h)
   ·exact .inl h
   ·exact .inr (.inr h)
  ·rintro(h|h|h)
   ·exact .inl (.inr h)
   ·exact .inl (.inl h)
   ·exact .inr h
theorem addsL_sort:∀ {ts l:List (List Int)},SortL l->SortL (addsL l ts)
 | [],_,h=>h
 | t :: ts,l,h=>addsL_sort (ts:=ts) (addL_sort h)
theorem addL_len(t:List Int):∀ l:List (List Int),(addL t l).length<=l.length+1
 | []=>by simp[addL]
 | x :: r=>by
  have:=addL_len t r;unfold addL
  split
  ·simp;omega
  ·split<;>simp
theorem addsL_len:∀ (ts l:List (List Int)),(addsL l ts).length<=l.length+ts.length
 | [],_=>by simp[addsL]
 | t :: ts,l=>by
  have h1:=addsL_len ts (addL t l);have h2:=addL_len t l
  show (addsL (addL t l) ts).length<=_
  simp only[I_];omega
theorem sort_nil:SortL []:=List.Pairwise.nil
def ordL(l:List (List Int)):List (List Int):=addsL [] l
theorem ordL_mem {l:List (List Int)}:y∈ordL l↔y∈l:=by simp[ordL,addsL_mem]
theorem ordL_sort(l:List (List Int)):SortL (ordL l):=addsL_sort sort_nil
theorem ordL_of {l m:List (List Int)}(hm:SortL m)(h:∀ x,x∈m↔x∈l):m=ordL l:=sort_ext hm (ordL_sort l) λx=>by rw[h,ordL_mem]
def behV(q p:List Int):List Int:=if q=[15] then p else q++p++[19]
theorem post_one(hp:p.ok 0=true):p.post=[15]↔isOne p=true:=by
 constructor
 ·intro h
  rw[zzz hp (b:=.leaf 15) (by rfl) h];rfl
 ·intro h
  rw[one_eq h];rfl
theorem behV_post {b:KT}(hq:q.ok 0=true):behV q.post b.post=(behK q b).post:=by
 unfold behV behK;by_cases h:isOne q=true
 ·rw[x_ ((post_one hq).2 h),x_ h]
 ·rw[m_ (λe=>h ((post_one hq).1 e)),m_ h]
  rfl
def partsV:KT->Nat->Int->List (List Int)
 | .leaf n,_,c=>if n=c then [[15]] else []
 | .star a,α,c=>ordL ((partsV a α c).map λq=>behV q (KT.star a).post)
 | .bin o a b,α,c=>if o then addsL (partsV a α c) (partsV b α c)
  else addsL (ordL ((partsV a α c).map λq=>behV q b.post)) (if (endsK a).testBit α then partsV b α c else [])
theorem partsV_or(a b:KT)(α:Nat)(c:Int):partsV (.bin true a b) α c=addsL (partsV a α c) (partsV b α c):=by simp[partsV]
theorem partsV_seq(a b:KT)(α:Nat)(c:Int):partsV (.bin false a b) α c=addsL (ordL ((partsV a α c).map λq=>behV q b.post)) (if (endsK a).testBit α then partsV b α c else []):=by simp[partsV]
theorem partsV_star(a:KT)(α:Nat)(c:Int):partsV (.star a) α c=ordL ((partsV a α c).map λq=>behV q (KT.star a).post):=rfl
theorem partsV_sort:∀ (t:KT) (α:Nat) (c:Int),SortL (partsV t α c)
 | .leaf n,α,c=>by
  unfold partsV
  split
  ·simp[SortL]
  ·exact sort_nil
 | .star a,α,c=>ordL_sort _
 | .bin true a b,α,c=>by rw[partsV_or];exact addsL_sort (partsV_sort a α c)
 | .bin false a b,α,c=>by rw[partsV_seq];exact addsL_sort (ordL_sort _)
theorem partsV_mem:∀ {t:KT},t.ok 0=true->∀ {α:Nat} {c:Int} {x:List Int},x∈partsV t α c↔∃ p,ptK t α c p/\p.post=x
 | .leaf n,_,α,c,x=>by
  unfold partsV
  constructor
  ·intro h
   split at h
   ·rename_i hn
    simp only[k_]at h;exact⟨.leaf 15,(ptK_leaf _ _ _ _).2 ⟨hn,rfl⟩,h.symm⟩
   ·cases h
  ·rintro⟨p,h,rfl⟩
   rw[ptK_leaf]at h;rw[x_ h.1,h.2];simp[KT.post]
 | .star a,ht,α,c,x=>by
  rw[partsV_star,ordL_mem,aa_];have ha:a.ok 0=true:=ht
  constructor
  ·rintro⟨q,hq,rfl⟩
   obtain⟨p,h1,rfl⟩:=(partsV_mem ha).1 hq;exact⟨behK p (.star a),(ptK_star _ _ _ _).2 ⟨p,h1,rfl⟩,(behV_post (ptK_ok ha h1)).symm⟩
  ·rintro⟨p,h,rfl⟩
   obtain⟨q,h1,rfl⟩:=(ptK_star _ _ _ _).1 h;exact⟨q.post,(partsV_mem ha).2 ⟨q,h1,rfl⟩,behV_post (ptK_ok ha h1)⟩
 | .bin true a b,ht,α,c,x=>by
  simp only[KT.ok,j_]at ht;rw[partsV_or,addsL_mem,partsV_mem ht.1,partsV_mem ht.2]
  constructor
  ·rintro(⟨p,h,e⟩|⟨p,h,e⟩)
   ·exact⟨p,(ptK_or _ _ _ _ _).2 (.inl h),e⟩
   ·exact⟨p,(ptK_or _ _ _ _ _).2 (.inr h),e⟩
  ·rintro⟨p,h,e⟩
   rcases (ptK_or _ _ _ _ _).1 h with h|h
   ·exact .inl ⟨p,h,e⟩
   ·exact .inr ⟨p,h,e⟩
 | .bin false a b,ht,α,c,x=>by
  simp only[KT.ok,j_]at ht;rw[partsV_seq,addsL_mem,ordL_mem,aa_]
  constructor
  ·rintro(⟨q,hq,rfl⟩|h)
   ·(obtain⟨p,h1,rfl⟩:=(partsV_mem ht.1).1 hq);exact⟨behK p b,(ptK_seq _ _ _ _ _).2 (.inl ⟨p,h1,rfl⟩),(behV_post (ptK_ok ht.1 h1)).symm⟩
   ·split at h
    ·rename_i hb
     obtain⟨p,h1,e⟩:=(partsV_mem ht.2).1 h;exact⟨p,(ptK_seq _ _ _ _ _).2 (.inr ⟨hb,h1⟩),e⟩
    ·cases h
  ·rintro⟨p,h,rfl⟩
   rcases (ptK_seq _ _ _ _ _).1 h with⟨q,h1,rfl⟩|⟨hb,h1⟩
   ·exact .inl ⟨q.post,(partsV_mem ht.1).2 ⟨q,h1,rfl⟩,behV_post (ptK_ok ht.1 h1)⟩
   ·rw[x_ hb]
    exact .inr ((partsV_mem ht.2).2 ⟨p,h1,rfl⟩)
theorem partsV_len(ht:t.ok 0=true){α:Nat}{c:Int}(hc:16<=c):(partsV t α c).length<=t.size:=by
 have h:=nodup_len (partsV t α c) ((clK t).map KT.post) (sort_nodup (partsV_sort t α c)) λx hx=>by
  obtain⟨p,h1,rfl⟩:=(partsV_mem ht).1 hx;exact aa_.2 ⟨p,pt_cl hc h1,rfl⟩
 rw[X_]at h;exact J_ h (cl_length t)
theorem partsV_short(ht:t.ok 0=true){α:Nat}{c:Int}(hc:16<=c){x:List Int}(hx:x∈partsV t α c):x.length<=t.size*(t.size+1):=by
 obtain⟨p,h1,rfl⟩:=(partsV_mem ht).1 hx;rw[p.post_length];exact cl_size (pt_cl hc h1)
def newL(o:List (List Int)):List (List Int)->List (List Int)
 | []=>o
 | p :: r=>newL (if p∈o then o else o++[p]) r
theorem newL_snoc(p:List Int):∀ (ps o:List (List Int)),newL o (ps++[p])=if p∈newL o ps then newL o ps else newL o ps++[p]
 | [],o=>rfl
 | q :: ps,o=>newL_snoc p ps _
def moveP(t:KT)(m:Nat):List (List Int):=partsV t (m/3) (16+((m%3:Nat):Int))
def rowL(o:List (List Int))(t:KT):Nat->List (List Int)
 | 0=>o
 | k+1=>newL (rowL o t k) (moveP t k)
def allGo:Nat->Nat->List (List Int)->List (List Int)
 | 0,_,o=>o
 | f+1,i,o=>if i<o.length then allGo f (i+1) (rowL o (Τ (o.getD i [])) 12) else o
def allV(e:List Int):List (List Int):=allGo 60 0 [e]
theorem allGo_more {o:List (List Int)}(h:i<o.length):allGo (f+1) i o=allGo f (i+1) (rowL o (Τ (o.getD i [])) 12):=by rw[allGo,x_ h]
theorem allGo_done {o:List (List Int)}(h:o.length<=i):allGo (f+1) i o=o:=by rw[allGo,m_ (by omega)]
structure Kept(P:KT->Prop):Prop where
 ok:∀ {t},P t->t.ok 0=true
 pt:∀ {t},P t->∀ {α:Nat} {c:Int} {p:KT},α<4->16<=c->ptK t α c p->P p
structure AllI(P:KT->Prop)(o:List (List Int)):Prop where
 nodup:o.Nodup
 mem:∀ x∈o,∃ q,P q/\q.post=x
theorem AllI.new {P:KT->Prop}:∀ {ps o:List (List Int)},AllI P o->(∀ x∈ps,∃ q,P q/\q.post=x)->AllI P (newL o ps)
 | [],_,h,_=>h
 | p :: ps,o,h,hp=>by
  refine AllI.new (ps:=ps) ?_ λx hx=>hp x (cf_ _ hx)
  split
  ·exact h
  ·rename_i hn
   refine⟨?_,λx hx=>?_⟩
   ·rw[d2_]
    refine⟨h.nodup,by simp,λa ha b hb=>?_⟩;simp only[k_]at hb;subst hb;exact λe=>hn (e ▸ ha)
   ·rcases E_.1 hx with hx|hx
    ·exact h.mem x hx
    ·simp only[k_]at hx
     subst hx;exact hp _ (au_ ..)
theorem newL_pre:∀ (ps o:List (List Int)),∃ r,newL o ps=o++r
 | [],o=>⟨[],by simp[newL]⟩
 | p :: ps,o=>by
  unfold newL
  split
  ·exact newL_pre ps o
  ·obtain⟨r,h⟩:=newL_pre ps (o++[p])
   exact⟨[p]++r,by rw[h,Z_]⟩
theorem newL_mem:∀ {ps o:List (List Int)},y∈newL o ps↔y∈o\/y∈ps
 | [],o=>by simp[newL]
 | p :: ps,o=>by
  unfold newL;rw[newL_mem,N_]
  split
  ·rename_i hp
   constructor
   ·rintro(h|h)
    ·exact .inl h
    ·exact .inr (.inr h)
   ·rintro(h|rfl|h)
    ·exact .inl h
    ·exact .inl hp
    ·exact .inr h
  ·rw[E_,k_]
   constructor
   ·rintro((h|h)|h)
    ·exact .inl h
    ·exact .inr (.inl h)
    ·exact .inr (.inr h)
   ·rintro(h|h|h)
    ·exact .inl (.inl h)
    ·exact .inl (.inr h)
    ·exact .inr h
theorem rowL_pre(o:List (List Int))(t:KT):∀ k,∃ r,rowL o t k=o++r
 | 0=>⟨[],by simp[rowL]⟩
 | k+1=>by
  obtain⟨r,h⟩:=rowL_pre o t k;obtain⟨s,h2⟩:=newL_pre (moveP t k) (rowL o t k);exact⟨r++s,by rw[rowL,h2,h,Z_]⟩
theorem rowL_mem {o:List (List Int)}:∀ {k:Nat},y∈rowL o t k↔y∈o\/∃ m,m<k/\y∈moveP t m
 | 0=>by simp[rowL]
 | k+1=>by
  rw[rowL,newL_mem,rowL_mem]
  constructor
  ·rintro((h|⟨m,h1,h2⟩)|h)
   ·exact .inl h
   ·exact .inr ⟨m,by omega,h2⟩
   ·exact .inr ⟨k,by omega,h⟩
  ·rintro(h|⟨m,h1,h2⟩)
   ·exact .inl (.inl h)
   ·by_cases hm:m=k
    ·subst hm;exact .inr h2
    ·exact .inl (.inr ⟨m,by omega,h2⟩)
theorem moveP_kept {P:KT->Prop}(hP:Kept P){t:KT}(ht:P t){m:Nat}(hm:m<12):∀ x∈moveP t m,∃ q,P q/\q.post=x:=by
 intro x hx;obtain⟨p,h1,e⟩:=(partsV_mem (hP.ok ht)).1 hx;exact⟨p,hP.pt ht (by omega) (by omega) h1,e⟩
theorem AllI.row {P:KT->Prop}(hP:Kept P){o:List (List Int)}(h:AllI P o){t:KT}(ht:P t):∀ {k:Nat},k<=12->AllI P (rowL o t k)
 | 0,_=>h
 | k+1,hk=>AllI.new (AllI.row hP h ht (k:=k) (by omega)) (moveP_kept hP ht (by omega))
theorem AllI.tree {P:KT->Prop}(hP:Kept P){o:List (List Int)}(h:AllI P o){i:Nat}(hi:i<o.length):P (Τ (o.getD i []))/\(Τ (o.getD i [])).post=o.getD i []:=by
 rw[show o.getD i []=o[i] by simp[List.getD,l_ hi]];obtain⟨q,h1,h2⟩:=h.mem _ (u_ hi);rw[<-h2,zee (hP.ok h1)];exact⟨h1,rfl⟩
theorem AllI.one {P:KT->Prop}(h:P t):AllI P [t.post]:=⟨by simp,λx hx=>by
 simp only[k_]at hx;exact⟨t,h,hx.symm⟩⟩
def Cl(t0:KT)(t:KT):Prop:=t∈t0 :: clK t0
theorem Cl.kept(h:t0.ok 0=true):Kept (Cl t0) where
 ok:=fun {t} ht=>by
  rcases N_.1 ht with rfl|ht
  ·exact h
  ·exact cl_ok h t ht
 pt:=fun {t} ht α c p _ hc hp=>by
  rcases N_.1 ht with rfl|ht
  ·exact cf_ _ (pt_cl hc hp)
  ·exact cf_ _ (cl_pt hc ht hp)
theorem Cl.size(h:Cl t0 t)(hs:t0.size<=40):t.size<=1640:=by
 rcases N_.1 h with rfl|h
 ·omega
 ·have:=cl_size h
  have h2:t0.size*(t0.size+1)<=40*41:=bk_ hs (by omega);omega
theorem AllI.len {o:List (List Int)}(h:AllI (Cl t0) o)(hs:t0.size<=40):o.length<=41:=by
 have h1:=nodup_len o ((t0 :: clK t0).map KT.post) h.nodup λx hx=>by
  obtain⟨q,h1,h2⟩:=h.mem x hx;exact aa_.2 ⟨q,h1,h2⟩
 have h2:=cl_length t0;simp only[X_,I_]at h1;omega
def DoneL(o:List (List Int))(i:Nat):Prop:=∀ j,j<i->j<o.length->∀ m,m<12->∀ y∈moveP (Τ (o.getD j [])) m,y∈o
theorem DoneL.row {o:List (List Int)}(h:DoneL o i)(hi:i<o.length):DoneL (rowL o (Τ (o.getD i [])) 12) (i+1):=by
 obtain⟨r,hr⟩:=rowL_pre o (Τ (o.getD i [])) 12;intro j hj hjl m hm y hy;have hjo:j<o.length:=by omega
 have e:(rowL o (Τ (o.getD i [])) 12).getD j []=o.getD j []:=by
  rw[hr];simp[List.getD,d5_ hjo]
 rw[e]at hy;rw[rowL_mem];by_cases hji:j=i
 ·subst hji
  exact .inr ⟨m,hm,hy⟩
 ·exact .inl (h j (by omega) hjo m hm y hy)
theorem allGo_all(ht:t0.ok 0=true)(hs:t0.size<=40){P:KT->Prop}(hP:Kept P):∀ (f i:Nat) (o:List (List Int)),42<=f+i->AllI (Cl t0) o->AllI P o->DoneL o i ->
  AllI (Cl t0) (allGo f i o)/\AllI P (allGo f i o)/\DoneL (allGo f i o) (allGo f i o).length/\∃ r,allGo f i o=o++r
 | 0,i,o,hf,h1,h2,h3=>by
  have:=h1.len hs;exact⟨h1,h2,λj hj hjl=>h3 j (by have h:j<o.length:=hj;omega) hjl,[],by simp[allGo]⟩
 | f+1,i,o,hf,h1,h2,h3=>by
  by_cases hi:i<o.length
  ·rw[allGo_more hi]
   obtain⟨a1,a2,a3,r,a4⟩:=allGo_all ht hs hP f (i+1) _ (by omega) (h1.row (Cl.kept ht) (h1.tree (Cl.kept ht) hi).1 (le_ _)) (h2.row hP (h2.tree hP hi).1 (le_ _)) (h3.row hi);obtain⟨s,hs'⟩:=rowL_pre o (Τ (o.getD i [])) 12;exact⟨a1,a2,a3,s++r,by rw[a4,hs',Z_]⟩
  ·rw[allGo_done (by omega)]
   exact⟨h1,h2,λj hj hjl=>h3 j (by omega) hjl,[],by simp⟩
structure AllR(t0:KT)(L:List (List Int)):Prop where
 cl:AllI (Cl t0) L
 len:L.length<=41
 first:L[0]?=some t0.post
 done:∀ x∈L,∀ m,m<12->∀ y∈moveP (Τ x) m,y∈L
theorem allV_all(ht:t0.ok 0=true)(hs:t0.size<=40):AllR t0 (allV t0.post):=by
 have h0:AllI (Cl t0) [t0.post]:=AllI.one (au_ ..);obtain⟨a1,_,a3,r,a4⟩:=allGo_all ht hs (Cl.kept ht) 60 0 [t0.post] (by omega) h0 h0 (λj hj=>by omega);refine⟨a1,a1.len hs,by show (allGo 60 0 [t0.post])[0]?=_;rw[a4];rfl,λx hx m hm y hy=>?_⟩;obtain⟨j,hj,e⟩:=ax_ hx;refine a3 j hj hj m hm y ?_;rw[show (allGo 60 0 [t0.post]).getD j []=x by rw[show allGo 60 0 [t0.post]=allV t0.post from rfl,List.getD,l_ hj,ac_];exact e];exact hy
theorem Dt.kept:Kept (λt=>t.ok 0=true/\Dt t) where
 ok:=λh=>h.1
 pt:=λh _ _ _ _ hc hp=>⟨ptK_ok h.1 hp,h.2.part hc hp⟩
structure Au where
 ends:List Int
 next:List (List Int)
noncomputable def setL(L:List (List Int))(x:List Int)(m:Nat):Nat:=bitsN L.length λj=>L.getD j []∈moveP (Τ x) m
noncomputable def nextL(L:List (List Int))(x:List Int):List Int:=(List.range 12).map λm=>((setL L x m:Nat):Int)
def endL(x:List Int):Int:=((endsK (Τ x):Nat):Int)
noncomputable def autV(e:List Int):Au:=if ν e&&decide ((allV e).length<=10) then ⟨(allV e).map endL,(allV e).map (nextL (allV e))⟩ else ⟨[],[]⟩
def stepU(a:Au)(set m:Nat):Nat:=imgT (a.next.map λr:List Int=>r.getD m 0) set a.ends.length
def endsU(a:Au)(set:Nat):Nat:=imgT a.ends set a.ends.length
structure AuR(t0:KT)(L:List (List Int))(a:Au):Prop where
 all:AllR t0 L
 le:L.length<=10
 ends:a.ends=L.map endL
 next:a.next=L.map (nextL L)
theorem autV_open(h:(autV e).ends≠[]):∃ t0:KT,t0.ok 0=true/\t0.size<=40/\t0.post=e/\ν e=true/\AuR t0 (allV e) (autV e):=by
 unfold autV at h
 split at h
 ·rename_i hc
  have hc':=hc;simp only[j_,t_]at hc;obtain⟨t,h1,h2,_,h4⟩:=zex hc.1;refine⟨t,h1,h4,h2,hc.1,?_,hc.2,?_,?_⟩
  ·have:=allV_all h1 h4
   rwa [h2]at this
  ·unfold autV;rw[x_ hc']
  ·unfold autV;rw[x_ hc']
 ·exact absurd rfl h
theorem ends_small:∀ {t:KT},t.ok 0=true->endsK t<2 ^ 4
 | .leaf n,h=>by
  simp only[KT.ok,j_,t_]at h;unfold endsK
  split<;>omega
 | .star a,_=>by simp[endsK]
 | .bin p a b,h=>by
  simp only[KT.ok,j_]at h;have ha:=ends_small h.1;have hb:=ends_small h.2;unfold endsK
  split
  ·exact ce_ ha hb
  ·exact Nat.and_lt_two_pow _ hb
section
variable {t0:KT} {L:List (List Int)} {a:Au}
theorem AuR.tree(h:AuR t0 L a)(ht:t0.ok 0=true){j:Nat}(hj:j<L.length):(Τ L[j]).ok 0=true/\(Τ L[j]).post=L[j]:=by
 obtain⟨q,h1,h2⟩:=h.all.cl.mem _ (u_ hj);have hq:=(Cl.kept ht).ok h1;rw[<-h2,zee hq];exact⟨hq,rfl⟩
theorem AuR.ends_len(h:AuR t0 L a):a.ends.length=L.length:=by rw[h.ends];simp
theorem AuR.next_len(h:AuR t0 L a):a.next.length=L.length:=by rw[h.next];simp
theorem AuR.next_get(h:AuR t0 L a){j m:Nat}(hj:j<L.length)(hm:m<12):((a.next.map λr:List Int=>r.getD m 0).getD j 0).toNat=setL L L[j] m:=by
 rw[h.next];simp[List.getD,hj,nextL,hm]
theorem AuR.step_bit(h:AuR t0 L a){set m j:Nat}(hm:m<12)(hj:j<L.length):(stepU a set m).testBit j=true↔∃ s,∃ hs:s<L.length,set.testBit s=true/\L[j]∈moveP (Τ L[s]) m:=by
 rw[stepU,imgT_bit,h.ends_len]
 constructor
 ·rintro⟨s,h1,h2,h3⟩
  rw[h.next_get h1 hm,setL,bitsN_bit]at h3;refine⟨s,h1,h2,?_⟩;have:=h3.2
  rwa [show L.getD j []=L[j] by simp[List.getD,l_ hj]]at this
 ·rintro⟨s,h1,h2,h3⟩
  refine⟨s,h1,h2,?_⟩;rw[h.next_get h1 hm,setL,bitsN_bit];refine⟨hj,?_⟩
  rwa [show L.getD j []=L[j] by simp[List.getD,l_ hj]]
theorem AuR.step_lt(h:AuR t0 L a)(set:Nat){m:Nat}(hm:m<12):stepU a set m<2 ^ L.length:=by
 refine imgT_lt (λs hs=>?_) set _;have hs':s<L.length:=by rw[X_,h.next_len] at hs;exact hs
 have:=h.next_get hs' hm;rw[show (a.next.map λr:List Int=>r.getD m 0)[s]=(a.next.map λr:List Int=>r.getD m 0).getD s 0 by rw[List.getD_eq_getElem?_getD,l_ hs,ac_],this];exact bitsN_lt _ _
end
inductive Alg(t0:KT):List Nat->KT->Prop where
 | nil:Alg t0 [] t0
 | snoc {ms:List Nat} {m:Nat} {q p:KT}:Alg t0 ms q->m<12->ptK q (m/3) (16+((m%3:Nat):Int)) p->Alg t0 (ms++[m]) p
theorem Alg.cl(ht:t0.ok 0=true){ms:List Nat}{q:KT}(h:Alg t0 ms q):Cl t0 q:=by
 induction h with
 | nil=>exact au_ ..
 | snoc _ hm h ih=>exact(Cl.kept ht).pt ih (by omega) (by omega) h
theorem alg_snoc {ms:List Nat} {m:Nat}(h:Alg t0 (ms++[m]) p):m<12/\∃ q,Alg t0 ms q/\ptK q (m/3) (16+((m%3:Nat):Int)) p:=by
 generalize he:ms++[m]=l at h;cases h with
 | nil=>simp at he
 | @snoc ms' m' q p' h1 h2 h3=>
  obtain⟨e1,e2⟩:=List.append_inj_right' he (by simp) |> λe=>(⟨List.append_inj_left' he (by simp),e⟩:ms=ms'/\[m]=[m'])
  injection e2 with e2;subst e1 e2;exact⟨h2,q,h1,h3⟩
structure SetR(t0:KT)(L:List (List Int))(ms:List Nat)(set:Nat):Prop where
 lt:set<2 ^ L.length
 bit:∀ j (hj:j<L.length),set.testBit j=true↔∃ q,Alg t0 ms q/\q.post=L[j]
theorem AuR.reached {L:List (List Int)} {a:Au}(h:AuR t0 L a)(ht:t0.ok 0=true):∀ (ms:List Nat) {q:KT},Alg t0 ms q->∃ j,∃ hj:j<L.length,q.post=L[j]:=by
 intro ms q hq
 have key:q.post∈L:=by
  induction hq with
  | nil=>exact cg_ h.all.first
  | @snoc ms m q p h1 h2 h3 ih=>
   refine h.all.done _ ih m h2 _ ?_;have hq:=(Cl.kept ht).ok (h1.cl ht);rw[zee hq];exact(partsV_mem hq).2 ⟨p,h3,rfl⟩
 obtain⟨j,hj,e⟩:=ax_ key;exact⟨j,hj,e.symm⟩
theorem SetR.step {L:List (List Int)} {a:Au}(h:AuR t0 L a)(ht:t0.ok 0=true){ms:List Nat}{set m:Nat}(hm:m<12)(hs:SetR t0 L ms set):SetR t0 L (ms++[m]) (stepU a set m) where
 lt:=h.step_lt set hm
 bit:=λj hj=>by
  rw[h.step_bit hm hj]
  constructor
  ·rintro⟨s,h1,h2,h3⟩
   obtain⟨q,hq,e⟩:=(hs.bit s h1).1 h2;have hqo:=(Cl.kept ht).ok (hq.cl ht);rw[<-e,zee hqo]at h3;obtain⟨p,hp,e2⟩:=(partsV_mem hqo).1 h3;exact⟨p,hq.snoc hm hp,e2⟩
  ·rintro⟨p,hp,e⟩
   obtain⟨_,q,hq,hqp⟩:=alg_snoc hp;obtain⟨s,h1,e2⟩:=h.reached ht ms hq;have hqo:=(Cl.kept ht).ok (hq.cl ht);refine⟨s,h1,(hs.bit s h1).2 ⟨q,hq,e2⟩,?_⟩;rw[<-e2,zee hqo,<-e];exact(partsV_mem hqo).2 ⟨p,hqp,rfl⟩
def nextP(a b:Au)(p:Nat × Nat)(m:Nat):Nat × Nat:=(stepU a p.1 m,stepU b p.2 m)
def apartP(a b:Au)(p:Nat × Nat):Nat:=endsU a p.1 ^^^ endsU b p.2
def prow(a b:Au)(o:List (Nat × Nat))(p:Nat × Nat):Nat->List (Nat × Nat)
 | 0=>o
 | k+1=>if nextP a b p k∈prow a b o p k then prow a b o p k else prow a b o p k++[nextP a b p k]
def pairGo(a b:Au):Nat->Nat->List (Nat × Nat)->Option (List (Nat × Nat))
 | 0,_,o=>some o
 | f+1,i,o=>if i<o.length then (if 100<(prow a b o (o.getD i (0,0)) 12).length then none else pairGo a b f (i+1) (prow a b o (o.getD i (0,0)) 12)) else some o
def pairsA(a b:Au):Option (List (Nat × Nat)):=pairGo a b 102 0 [(1,1)]
noncomputable def pairsV(e f:List Int):Option (List (Nat × Nat)):=if (autV e).ends=[]\/(autV f).ends=[] then none else pairsA (autV e) (autV f)
def okP(a b:Au)(ps:List (Nat × Nat)):Bool:=decide (ps.length<=100)&&decide ((1,1)∈ps)&&ps.all λp=>decide (p.1<2 ^ a.ends.length)&&decide (p.2<2 ^ b.ends.length)&&(apartP a b p==0)&&(List.range 12).all λm=>decide (nextP a b p m∈ps)
abbrev Way2:=(Nat × Nat) × List Int
def lowBit(x:Nat):Option Nat:=(List.range 4).find? λk=>x.testBit k
def hitW(a b:Au)(w:Way2):Option (List Int):=(lowBit (apartP a b w.1)).map λk=>w.2++[((k:Nat):Int)]
def hitL(a b:Au):List Way2->Option (List Int)
 | []=>none
 | w :: r=>match hitW a b w with
  | some t=>some t
  | none=>hitL a b r
def goW(a b:Au)(w:Way2)(s:List (Nat × Nat) × List Way2):Nat->List (Nat × Nat) × List Way2
 | 0=>s
 | k+1=>if nextP a b w.1 k∈(goW a b w s k).1 then goW a b w s k else ((goW a b w s k).1++[nextP a b w.1 k],(goW a b w s k).2++[(nextP a b w.1 k,w.2++[((k/3:Nat):Int),16+((k%3:Nat):Int)])])
def goL(a b:Au)(s:List (Nat × Nat) × List Way2):List Way2->List (Nat × Nat) × List Way2
 | []=>s
 | w :: r=>goL a b (goW a b w s 12) r
def levGo(a b:Au):Nat->List (Nat × Nat)->List Way2->Option (List Int)
 | 0,_,_=>none
 | f+1,seen,l=>match hitL a b l with
  | some t=>some t
  | none=>levGo a b f (goL a b (seen,[]) l).1 (goL a b (seen,[]) l).2
noncomputable def differV(e f:List Int):Option (List Int):=if (pairsV e f).isSome then levGo (autV e) (autV f) 21 [(1,1)] [((1,1),[])] else none
noncomputable def equalV(e f:List Int):Int:=if okP (autV e) (autV f) ((pairsV e f).getD []) then 1 else if (differV e f).isSome then 0 else -1
theorem lowBit_some {k:Nat}(h:lowBit x=some k):k<4/\x.testBit k=true:=by
 have h1:=List.find?_some h;have h2:=List.mem_of_find?_eq_some h;exact⟨c8_.1 h2,h1⟩
theorem equal_range(e f:List Int):equalV e f=1\/equalV e f=0\/equalV e f=-1:=by
 unfold equalV
 split
 ·exact .inl rfl
 ·split
  ·exact .inr (.inl rfl)
  ·exact .inr (.inr rfl)
theorem lowBit_zero:lowBit 0=none:=by decide
theorem okP_open {a b:Au} {ps:List (Nat × Nat)}(h:okP a b ps=true):ps.length<=100/\(1,1)∈ps/\∀ p∈ps,p.1<2 ^ a.ends.length/\p.2<2 ^ b.ends.length/\apartP a b p=0/\∀ m,m<12->nextP a b p m∈ps:=by
 simp only[okP,j_,t_,b5_]at h;obtain⟨⟨h1,h2⟩,h3⟩:=h;refine⟨h1,h2,λp hp=>?_⟩;obtain⟨⟨⟨k1,k2⟩,k3⟩,k4⟩:=h3 p hp;exact⟨k1,k2,by simpa using k3,λm hm=>k4 m (c8_.2 hm)⟩
theorem hitL_ok {a b:Au} {ps:List (Nat × Nat)}(h:okP a b ps=true):∀ (l:List Way2),(∀ w∈l,w.1∈ps)->hitL a b l=none
 | [],_=>rfl
 | w :: r,hl=>by
  have h0:=((okP_open h).2.2 _ (hl w (by simp))).2.2.1;rw[hitL,hitW,h0,lowBit_zero];exact hitL_ok h r λx hx=>hl x (by simp[hx])
theorem goW_ok {a b:Au} {ps:List (Nat × Nat)}(h:okP a b ps=true){w:Way2}(hw:w.1∈ps){s:List (Nat × Nat) × List Way2}(hs:∀ x∈s.2,x.1∈ps):∀ k,k<=12->∀ x∈(goW a b w s k).2,x.1∈ps
 | 0,_=>hs
 | k+1,hk=>by
  have ih:=goW_ok h hw hs k (by omega);intro x hx;unfold goW at hx
  split at hx
  ·exact ih x hx
  ·rcases E_.1 hx with hx|hx
   ·exact ih x hx
   ·simp only[k_]at hx
    subst hx;exact((okP_open h).2.2 _ hw).2.2.2 k (by omega)
theorem goL_ok {a b:Au} {ps:List (Nat × Nat)}(h:okP a b ps=true):∀ (l:List Way2),(∀ x∈l,x.1∈ps)->∀ s:List (Nat × Nat) × List Way2,(∀ x∈s.2,x.1∈ps)->∀ x∈(goL a b s l).2,x.1∈ps
 | [],_,_,hs=>hs
 | w :: r,hl,s,hs=>by
  intro x hx;rw[goL]at hx;exact goL_ok h r (λx hx=>hl x (by simp[hx])) _ (goW_ok h (hl w (by simp)) hs 12 (le_ _)) x hx
theorem levGo_ok {a b:Au} {ps:List (Nat × Nat)}(h:okP a b ps=true):∀ (f:Nat) (seen:List (Nat × Nat)) (l:List Way2),(∀ x∈l,x.1∈ps)->levGo a b f seen l=none
 | 0,_,_,_=>rfl
 | f+1,seen,l,hl=>by
  rw[levGo,hitL_ok h l hl];exact levGo_ok h f _ _ (goL_ok h l hl (seen,[]) λx hx=>by cases hx)
theorem ok_differ {f:List Int} {ps:List (Nat × Nat)}(h:okP (autV e) (autV f) ps=true):differV e f=none:=by
 unfold differV
 split
 ·exact levGo_ok h 21 _ _ λx hx=>by
   simp only[k_]at hx;subst hx;exact(okP_open h).2.1
 ·rfl
theorem equalV_spec(e f:List Int):equalV e f=if (differV e f).isSome then 0 else if okP (autV e) (autV f) ((pairsV e f).getD []) then 1 else -1:=by
 unfold equalV;cases h:okP (autV e) (autV f) ((pairsV e f).getD [])
 ·rfl
 ·rw[ok_differ h];rfl
theorem ltL_app {x:List Int}(s t:List Int)(hl:x.length=y.length)(h:ltL x y=true):ltL (x++s) (y++t)=true:=by
 induction x generalizing y with
 | nil=>
  cases y with
  | nil=>cases h
  | cons=>simp at hl
 | cons a x ih=>
  cases y with
  | nil=>simp at hl
  | cons b y=>
   simp only[ltL,aj_]at h ⊢
   split at h
   ·rename_i h1;rw[x_ h1]
   ·rename_i h1
    rw[m_ h1]
    split at h
    ·cases h
    ·rename_i h2
     rw[m_ h2];exact ih (by simpa using hl) h
theorem ltL_pre(x s t:List Int):ltL (x++s) (x++t)=ltL s t:=by
 induction x with
 | nil=>rfl
 | cons a x ih=>simp[ltL,ih]
structure WaysI(n:Nat)(l:List Way2):Prop where
 len:∀ w∈l,w.2.length=n
 sort:l.Pairwise λx y=>ltL x.2 y.2=true
theorem goW_ways {a b:Au} {w:Way2}(hw:w.2.length=n){s:List (Nat × Nat) × List Way2}(hs:WaysI (n+2) s.2)(hb:∀ x∈s.2,∀ t:List Int,ltL x.2 (w.2++t)=true):
  ∀ k,k<=12->WaysI (n+2) (goW a b w s k).2/\∀ x∈(goW a b w s k).2,(x∈s.2\/∃ j,j<k/\x.2=w.2++[((j/3:Nat):Int),16+((j%3:Nat):Int)])
 | 0,_=>⟨hs,λx hx=>.inl hx⟩
 | k+1,hk=>by
  obtain⟨i1,i2⟩:=goW_ways hw hs hb k (by omega);unfold goW
  split
  ·exact⟨i1,λx hx=>(i2 x hx).imp id λ⟨j,h1,h2⟩=>⟨j,by omega,h2⟩⟩
  ·refine⟨⟨λx hx=>?_,?_⟩,λx hx=>?_⟩
   ·rcases E_.1 hx with hx|hx
    ·exact i1.len x hx
    ·simp only[k_]at hx
     subst hx;simp[hw]
   ·rw[List.pairwise_append]
    refine⟨i1.sort,by simp,λx hx y hy=>?_⟩;simp only[k_]at hy;subst hy;rcases i2 x hx with hx|⟨j,hj,e⟩
    ·exact hb x hx _
    ·rw[e,ltL_pre]
     simp only[ltL];by_cases h3:j/3=k/3
     ·rw[m_ (by omega),m_ (by omega),x_ (by omega)]
     ·rw[x_ (by omega)]
   ·rcases E_.1 hx with hx|hx
    ·exact(i2 x hx).imp id λ⟨j,h1,h2⟩=>⟨j,by omega,h2⟩
    ·simp only[k_]at hx
     exact .inr ⟨k,by omega,by rw[hx]⟩
theorem goL_ways {a b:Au}:∀ (l:List Way2),WaysI n l->∀ s:List (Nat × Nat) × List Way2,WaysI (n+2) s.2->(∀ x∈s.2,∀ w∈l,∀ t:List Int,ltL x.2 (w.2++t)=true)->WaysI (n+2) (goL a b s l).2
 | [],_,_,hs,_=>hs
 | w :: r,hl,s,hs,hb=>by
  have hw:=hl.len w (by simp);have hp:=a4_.1 hl.sort;obtain⟨i1,i2⟩:=goW_ways (a:=a) (b:=b) hw hs (λx hx=>hb x hx w (by simp)) 12 (le_ _);rw[goL];refine goL_ways r ⟨λx hx=>hl.len x (by simp[hx]),hp.2⟩ _ i1 λx hx y hy t=>?_
  rcases i2 x hx with hx|⟨j,_,e⟩
  ·exact hb x hx y (by simp[hy]) t
  ·rw[e]
   exact ltL_app _ _ (by rw[hw,hl.len y (by simp[hy])]) (hp.1 y hy)
def bestW(x:Nat)(tr best:List Int):Nat->List Int
 | 0=>best
 | k+1=>if x.testBit (3-k)&&((bestW x tr best k).isEmpty||ltL (tr++[((3-k:Nat):Int)]) (bestW x tr best k)) then tr++[((3-k:Nat):Int)] else bestW x tr best k
def bestL(a b:Au)(l:List Way2)(best:List Int):List Int:=l.foldl (λo w=>bestW (apartP a b w.1) w.2 o 4) best
theorem bestW_keep {tr best:List Int}(hne:best≠[])(h:∀ k:Int,ltL (tr++[k]) best=false):∀ k,bestW x tr best k=best
 | 0=>rfl
 | k+1=>by
  have he:best.isEmpty=false:=by simp[hne]
  rw[bestW,bestW_keep hne h k,h,he];simp
theorem bestW_none(x:Nat)(tr:List Int):∀ k,k<=4->bestW x tr [] k=(((List.range 4).find? λj=>decide (4-k<=j)&&x.testBit j).map λj=>tr++[((j:Nat):Int)]).getD []
 | 0,_=>by
  have:((List.range 4).find? λj=>decide (4-0<=j)&&x.testBit j)=none:=by
   rw[List.find?_eq_none];intro j hj;have:=c8_.1 hj;simp;omega
  rw[this];rfl
 | k+1,hk=>by
  have ih:=bestW_none x tr k (by omega);rw[bestW,ih];have h4:k=0\/k=1\/k=2\/k=3:=by omega
  rcases h4 with rfl|rfl|rfl|rfl<;>cases h0:x.testBit 0<;>cases h1:x.testBit 1<;>cases h2:x.testBit 2<;>cases h3:x.testBit 3<;>simp[List.range,List.range.loop,List.find?,h0,h1,h2,h3,ltL_pre,ltL]
theorem bestW_hit(a b:Au)(w:Way2):bestW (apartP a b w.1) w.2 [] 4=(hitW a b w).getD []:=by
 rw[bestW_none _ _ 4 (le_ _),hitW,lowBit]
 congr 2
theorem bestL_keep {a b:Au}:∀ {l:List Way2} {best:List Int},best≠[]->(∀ w∈l,∀ k:Int,ltL (w.2++[k]) best=false)->bestL a b l best=best
 | [],_,_,_=>rfl
 | w :: r,best,hne,h=>by
  show bestL a b r (bestW (apartP a b w.1) w.2 best 4)=best
  rw[bestW_keep hne (h w (by simp))];exact bestL_keep hne λx hx=>h x (by simp[hx])
theorem bestL_hit {a b:Au}:∀ {l:List Way2},WaysI n l->bestL a b l []=(hitL a b l).getD []
 | [],_=>rfl
 | w :: r,h=>by
  have hp:=a4_.1 h.sort
  show bestL a b r (bestW (apartP a b w.1) w.2 [] 4)=_
  rw[bestW_hit,hitL];cases ht:hitW a b w with
  | none=>exact bestL_hit (l:=r) ⟨λx hx=>h.len x (by simp[hx]),hp.2⟩
  | some t=>
   rw[hitW,W_]at ht;obtain⟨k,_,rfl⟩:=ht;refine bestL_keep (by simp) λy hy j=>?_
   simp only[ac_];exact ltL_asym (ltL_app _ _ (by rw[h.len w (by simp),h.len y (by simp[hy])]) (hp.1 y hy))
def RchP(a b:Au)(p:Nat × Nat):Prop:=∃ ms:List Nat,(∀ m∈ms,m<12)/\p=ms.foldl (nextP a b) (1,1)
theorem RchP.start(a b:Au):RchP a b (1,1):=⟨[],by simp,rfl⟩
theorem RchP.next {a b:Au} {p:Nat × Nat}(h:RchP a b p){m:Nat}(hm:m<12):RchP a b (nextP a b p m):=by
 obtain⟨ms,h1,h2⟩:=h;refine⟨ms++[m],λk hk=>?_,by rw[d3_,<-h2];rfl⟩;rcases E_.1 hk with hk|hk
 ·exact h1 k hk
 ·simp only[k_]at hk;omega
theorem autV_small(e:List Int):(autV e).ends.length<=10/\(autV e).next.length=(autV e).ends.length/\(∀ r∈(autV e).next,r.length=12/\∀ x∈r,0<=x/\x.toNat<2 ^ 10)/\∀ x∈(autV e).ends,0<=x/\x.toNat<2 ^ 4:=by
 by_cases hne:(autV e).ends=[]
 ·unfold autV at hne ⊢
  split
  ·rename_i hc
   rw[x_ hc]at hne;have h0:allV e=[]:=List.map_eq_nil_iff.1 hne;simp[h0]
  ·simp
 ·obtain⟨t,h1,h2,h3,h4,hr⟩:=autV_open hne
  have hl:=hr.le;refine⟨by rw[hr.ends];simpa using hl,by rw[hr.ends,hr.next];simp,λr hm=>?_,λx hx=>?_⟩
  ·rw[hr.next]at hm
   obtain⟨y,hy,rfl⟩:=aa_.1 hm;refine⟨by simp[nextL],λx hx=>?_⟩;simp only[nextL,aa_]at hx;obtain⟨m,_,rfl⟩:=hx;have:=bitsN_lt (λj=>(allV e).getD j []∈moveP (Τ y) m) (allV e).length;refine⟨by omega,?_⟩;rw[b0_];exact T_ this (ah_ (by omega) hl)
  ·rw[hr.ends]at hx
   obtain⟨y,hy,rfl⟩:=aa_.1 hx;obtain⟨j,hj,e1⟩:=ax_ hy;have:=ends_small (hr.tree h1 hj).1;rw[e1]at this;exact⟨by simp[endL],by simpa [endL] using this⟩
theorem stepU_small {a:Au}(h:∀ r∈a.next,r.length=12/\∀ x∈r,0<=x/\x.toNat<2 ^ 10)(set:Nat){m:Nat}(hm:m<12):stepU a set m<1024:=by
 refine imgT_lt (n:=10) (λs hs=>?_) set _;simp only[X_]at hs;obtain⟨h1,h2⟩:=h _ (u_ hs);simp only[bq_,List.getD];rw[l_ (by omega)];exact(h2 _ (u_ _)).2
theorem endsU_small {a:Au}(h:∀ x∈a.ends,0<=x/\x.toNat<2 ^ 4)(set:Nat):endsU a set<16:=imgT_lt (n:=4) (λs hs=>(h _ (u_ hs)).2) set _
theorem pairs_few {ps:List (Nat × Nat)}(hn:ps.Nodup)(hs:∀ p∈ps,p.1<1024/\p.2<1024):ps.length<=1048576:=by
 have h1:(ps.map λp=>p.1*1024+p.2).Nodup:=by
  rw[List.Nodup,List.pairwise_map];refine List.Pairwise.imp_of_mem (fun {x y} hx hy hne e=>hne ?_) hn;obtain⟨a1,a2⟩:=hs x hx;obtain⟨b1,b2⟩:=hs y hy;have:x.1=y.1:=by omega
  have:x.2=y.2:=by omega
  exact Prod.ext ‹_› ‹_›
 have h2:=nodup_len _ (List.range 1048576) h1 λx hx=>by
  obtain⟨p,hp,rfl⟩:=aa_.1 hx;obtain⟨a1,a2⟩:=hs p hp;exact c8_.2 (by omega)
 simpa using h2
end Go.Proofs.YtfnnhimopokpnaaGreatDoor
