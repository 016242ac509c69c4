/- Lemmas for this seat; no condition. -/
import Derived.Test.YtfnnhimopokpnaaGreatDoorHAAB
import Derived.Test.YtfnnhimopokpnaaGreatDoorHAAC
namespace Go.Proofs.YtfnnhimopokpnaaGreatDoor
open Go.RowKit
set_option maxRecDepth 100000
set_option maxHeartbeats 0
set_option linter.unusedVariables false
def varK (n:Int):Nat:=(-1-n).toNat
def KT.root:KT→Int
 | .leaf n=>n
 | .star _=>21
 | .bin p _ _=>KT.op p
def matchT:KT→KT→List (List Int)→Option (List (List Int))
 | .leaf n,t,V=>if n<0 then (if V.getD (varK n) []=[] then some (V.set (varK n) t.post) else if V.getD (varK n) []=t.post then some V else none) else if t.root=n then some V else none
 | .star p,t,V=>match t with | .star t'=>matchT p t' V | _=>none
 | .bin q a b,t,V=>match t with | .bin r c d=>if q=r then (matchT a c V).bind (matchT b d) else none | _=>none
def fillT:List Int→List (List Int)→Option (List Int)
 | [],_=>some []
 | s :: r,V=>if 0≤s then (fillT r V).map (s :: ·) else if V.getD (varK s) []=[] then none else (fillT r V).map (V.getD (varK s) []++·)
structure GV (V:List (List Int)):Prop where
 len:V.length=3
 all:∀ i,V.getD i []=[]∨∃ s:KT,s.ok 0=true∧s.post=V.getD i []∧s.size≤40
theorem GV.zero:GV [[],[],[]]:=⟨rfl,fun i=>by match i with
 | 0=>exact .inl rfl
 | 1=>exact .inl rfl
 | 2=>exact .inl rfl
 | i+3=>exact .inl (by simp)⟩
theorem GV.bd {V:List (List Int)} (h:GV V) (i:Nat):(V.getD i []).length≤40:=by
 rcases h.all i with h|⟨s,_,h,hs⟩
 ·rw [h];decide
 ·rw [←h,s.post_length];exact hs
theorem KT.post_ne (t:KT):t.post≠[]:=by
 intro h
 have:=congrArg List.length h
 rw [t.post_length] at this
 have:=t.size_pos
 simp at *
 omega
theorem GV.set {V:List (List Int)} (h:GV V) (k:Nat) (t:KT) (ht:t.ok 0=true) (hs:t.size≤40):GV (V.set k t.post):=by
 refine ⟨by simp [h.len],fun i=>?_⟩
 by_cases hi:i<V.length
 ·by_cases hk:k=i
  ·subst hk
   exact .inr ⟨t,ht,by simp [List.getD,hi],hs⟩
  ·have:=h.all i
   simp only [List.getD,List.getElem?_set_ne hk] at this ⊢
   exact this
 ·exact .inl (by simp [List.getD,List.getElem?_eq_none (by simp;omega:(V.set k t.post).length≤i)])
theorem matchT_good:∀ (p t:KT) (V V':List (List Int)),t.ok 0=true→t.size≤40→GV V→matchT p t V=some V'→GV V'
 | .leaf n,t,V,V',ht,hs,hV,h=>by
  rw [matchT] at h
  split at h
  ·split at h
   ·injection h with h;subst h;exact hV.set _ t ht hs
   ·split at h
    ·injection h with h;subst h;exact hV
    ·cases h
  ·split at h
   ·injection h with h;subst h;exact hV
   ·cases h
 | .star p,t,V,V',ht,hs,hV,h=>by
  cases t with
  | star t'=>simp only [matchT] at h;simp only [KT.size] at hs;exact matchT_good p t' V V' ht (by omega) hV h
  | leaf _=>simp [matchT] at h
  | bin _ _ _=>simp [matchT] at h
 | .bin q a b,t,V,V',ht,hs,hV,h=>by
  cases t with
  | bin r c d=>
   simp only [matchT] at h
   simp only [KT.size] at hs
   simp only [KT.ok,Bool.and_eq_true] at ht
   split at h
   ·rw [Option.bind_eq_some_iff] at h
    obtain ⟨V1,h1,h2⟩:=h
    exact matchT_good b d V1 V' ht.2 (by omega) (matchT_good a c V V1 ht.1 (by omega) hV h1) h2
   ·cases h
  | leaf _=>simp [matchT] at h
  | star _=>simp [matchT] at h
theorem fillT_append:∀ (a b:List Int) (V:List (List Int)),fillT (a++b) V=(fillT a V).bind fun x=>(fillT b V).map (x++·)
 | [],b,V=>by cases h:fillT b V<;>simp [fillT,h]
 | s :: r,b,V=>by
  simp only [List.cons_append,fillT]
  rw [fillT_append r b V]
  split
  ·cases fillT r V<;>cases fillT b V<;>simp
  ·split
   ·rfl
   ·cases fillT r V<;>cases fillT b V<;>simp
theorem fillT_good (V:List (List Int)) (hV:GV V):∀ (p:KT) (out:List Int),p.ok (-3)=true→fillT p.post V=some out→∃ t:KT,t.ok 0=true∧t.post=out
 | .leaf n,out,hp,h=>by
  simp only [KT.ok,Bool.and_eq_true,decide_eq_true_eq] at hp
  simp only [KT.post,fillT] at h
  split at h
  ·simp at h
   subst h
   exact ⟨.leaf n,by simp [KT.ok];omega,rfl⟩
  ·split at h
   ·cases h
   ·rename_i hne
    rw [Option.map_some,List.append_nil] at h
    injection h with h
    rcases hV.all (varK n) with h'|⟨s,h1,h2,h3⟩
    ·exact absurd h' hne
    ·exact ⟨s,h1,by rw [h2,h]⟩
 | .star p,out,hp,h=>by
  simp only [KT.ok] at hp
  simp only [KT.post] at h
  rw [fillT_append,Option.bind_eq_some_iff] at h
  obtain ⟨x,h1,h2⟩:=h
  obtain ⟨t,h3,h4⟩:=fillT_good V hV p x hp h1
  simp [fillT] at h2
  subst h2
  exact ⟨.star t,h3,by simp [KT.post,h4]⟩
 | .bin q a b,out,hp,h=>by
  simp only [KT.ok,Bool.and_eq_true] at hp
  simp only [KT.post] at h
  rw [fillT_append,fillT_append,Option.bind_eq_some_iff] at h
  obtain ⟨y,h0,h2⟩:=h
  rw [Option.bind_eq_some_iff] at h0
  obtain ⟨x,h1,h0⟩:=h0
  rw [Option.map_eq_some_iff] at h0
  obtain ⟨z,h5,rfl⟩:=h0
  obtain ⟨t,h3,h4⟩:=fillT_good V hV a x hp.1 h1
  obtain ⟨t',h3',h4'⟩:=fillT_good V hV b z hp.2 h5
  have hq:(0:Int)≤KT.op q:=by cases q<;>simp [KT.op]
  rw [fillT,if_pos hq] at h2
  simp [fillT] at h2
  subst h2
  exact ⟨.bin q t t',by simp [KT.ok,h3,h3'],by simp [KT.post,h4,h4']⟩
theorem fillT_len (V:List (List Int)) (hV:GV V):∀ (p out:List Int),fillT p V=some out→out.length≤40*p.length
 | [],out,h=>by simp [fillT] at h;subst h;simp
 | s :: r,out,h=>by
  simp only [fillT] at h
  split at h
  ·rw [Option.map_eq_some_iff] at h
   obtain ⟨x,h1,rfl⟩:=h
   have:=fillT_len V hV r x h1
   simp
   omega
  ·split at h
   ·cases h
   ·rw [Option.map_eq_some_iff] at h
    obtain ⟨x,h1,rfl⟩:=h
    have:=fillT_len V hV r x h1
    have:=hV.bd (varK s)
    simp only [List.length_append,List.length_cons]
    omega
def treeOf (e:List Int):KT:=match runK e [] with | some [t]=>t | _=>.leaf 0
theorem treeOf_post {lo:Int} {t:KT} (h:t.ok lo=true):treeOf t.post=t:=by rw [treeOf,runK_post lo t h]
theorem rule_tree:∀ n,n<21→∀ l,(treeOf (ruleS n l)).ok (-3)=true∧(treeOf (ruleS n l)).post=ruleS n l∧(ruleS n l).length≤40:=by decide +kernel
theorem part_at {e:List Int} (hv:katV e=true) (k:Nat) (hk:k<e.length) :
  ∃ (pre rest:List Int) (t:KT),e=pre++t.post++rest∧pre.length+t.size=k+1∧t.ok 0=true∧t.size≤40∧spanO (e.take (k+1)).reverse 1=some t.size:=by
 simp only [katV,Bool.and_eq_true,decide_eq_true_eq,beq_iff_eq] at hv
 obtain ⟨⟨h1,h2⟩,h3⟩:=hv
 have he:e=e.take (k+1)++e.drop (k+1):=(List.take_append_drop _ _).symm
 have h3':=h3
 rw [he,kdep_append,Option.bind_eq_some_iff] at h3'
 obtain ⟨d,h4,_⟩:=h3'
 obtain ⟨st,h6,h7,h8⟩:=kdep_run (e.take (k+1)) [] d (by intro t ht;cases ht) h4
 have hp:=posts_run _ _ _ h6
 simp only [posts,List.nil_append] at hp
 have hlk:(e.take (k+1)).length=k+1:=by simp;omega
 match st,h7,hp with
 | [],_,hp=>
  have hp2:([]:List Int)=e.take (k+1):=hp
  rw [←hp2] at hlk
  simp at hlk
 | t :: r,h7,hp=>
  have ht:=h7 t (List.mem_cons_self ..)
  simp only [posts] at hp
  have hl:(posts r).length+t.size=k+1:=by rw [←hlk,←hp,List.length_append,t.post_length]
  refine ⟨posts r,e.drop (k+1),t,by rw [hp];exact he,hl,ht,by omega,?_⟩
  rw [←hp,List.reverse_append,spanO_post 0 t ht _ _ (by omega)]
  simp [spanO_zero]
theorem kdep_nonneg:∀ (e:List Int) (d d':Int),0≤d→kdep e d=some d'→0≤d'
 | [],d,d',h0,h=>by simp [kdep] at h;omega
 | s :: r,d,d',h0,h=>by
  rw [kdep] at h
  split at h
  ·cases h
  ·rename_i hb
   exact kdep_nonneg r _ d' (by omega) h
theorem katV_swap {pre rest:List Int} {t t':KT} (ht:t.ok 0=true) (ht':t'.ok 0=true) (hv:katV (pre++t.post++rest)=true) :
  katV (pre++t'.post++rest)=decide ((pre++t'.post++rest).length≤40):=by
 simp only [katV,Bool.and_eq_true,decide_eq_true_eq,beq_iff_eq] at hv
 obtain ⟨⟨h1,h2⟩,h3⟩:=hv
 have hpos:=t'.size_pos
 have hd:kdep (pre++t'.post++rest) 0=some 1:=by
  rw [kdep_append,kdep_append] at h3 ⊢
  cases hx:kdep pre 0 with
  | none=>rw [hx] at h3;simp at h3
  | some d=>
   rw [hx] at h3
   simp only [Option.bind_some] at h3 ⊢
   have hd0:0≤d:=kdep_nonneg pre 0 d (Int.le_refl 0) hx
   rw [kdep_post t ht d hd0] at h3
   rw [kdep_post t' ht' d hd0]
   exact h3
 have hl:1≤(pre++t'.post++rest).length:=by simp [t'.post_length];omega
 rw [katV,hd,decide_eq_true hl]
 simp
def KidsAt (lo:Nat) (row:Option Nat) (w:World) (kv:Value) (ps:List Value):Prop:=
 ∃ a cap,kv=.slice a ps.length cap∧ps.length≤cap∧cap≤maxLen ∧
  ∀ i (h:i<ps.length),∃ g off,a=some ⟨g,off,none⟩∧lo≤g∧some g≠row∧g<w.heap.size∧w.cell? ⟨g,off+i,none⟩=some ps[i]
def NodeAt (lo:Nat) (row:Option Nat) (w:World) (p:Value) (root:Int) (ps:List Value):Prop:=
 ∃ b kv,p=.pointer (some ⟨b,0,none⟩)∧lo≤b∧some b≠row∧Blk b (.cells #[.int .i64 root,kv] 188) w∧KidsAt lo row w kv ps
def RT (lo:Nat) (row:Option Nat) (w:World):KT→Value→Prop
 | .leaf n,p=>NodeAt lo row w p n []
 | .star t,p=>∃ q,NodeAt lo row w p 21 [q]∧RT lo row w t q
 | .bin o a b,p=>∃ q r,NodeAt lo row w p (KT.op o) [q,r]∧RT lo row w a q∧RT lo row w b r
structure Keeps (lo:Nat) (row:Option Nat) (w:World) (lo':Nat) (row':Option Nat) (w':World):Prop where
 size:w.heap.size≤w'.heap.size
 block:∀ k,k<w.heap.size→lo≤k→some k≠row→w'.heap[k]?=w.heap[k]?∧lo'≤k∧some k≠row'
theorem KidsAt.mono {lo lo':Nat} {row row':Option Nat} {w w':World} {kv:Value} {ps:List Value} (h:KidsAt lo row w kv ps) (hk:Keeps lo row w lo' row' w'):KidsAt lo' row' w' kv ps:=by
 obtain ⟨a,cap,h1,h2,h3,h4⟩:=h
 refine ⟨a,cap,h1,h2,h3,fun i hi=>?_⟩
 obtain ⟨g,off,e1,e2,e3,e4,e5⟩:=h4 i hi
 obtain ⟨k1,k2,k3⟩:=hk.block g e4 e2 e3
 exact ⟨g,off,e1,k2,k3,Nat.lt_of_lt_of_le e4 hk.size,by rw [World.cell?_of_block (w:=w) (a:=⟨g,off+i,none⟩) k1];exact e5⟩
theorem NodeAt.mono {lo lo':Nat} {row row':Option Nat} {w w':World} {p:Value} {root:Int} {ps:List Value} (h:NodeAt lo row w p root ps) (hk:Keeps lo row w lo' row' w'):NodeAt lo' row' w' p root ps:=by
 obtain ⟨b,kv,h1,h2,h3,h4,h5⟩:=h
 obtain ⟨k1,k2,k3⟩:=hk.block b h4.lt h2 h3
 exact ⟨b,kv,h1,k2,k3,k1.trans h4,h5.mono hk⟩
theorem RT.mono {lo lo':Nat} {row row':Option Nat} {w w':World} (hk:Keeps lo row w lo' row' w'):∀ {t:KT} {p:Value},RT lo row w t p→RT lo' row' w' t p
 | .leaf n,p,h=>NodeAt.mono h hk
 | .star t,p,h=>by
  obtain ⟨q,h1,h2⟩:=h
  exact ⟨q,h1.mono hk,RT.mono hk h2⟩
 | .bin o a b,p,h=>by
  obtain ⟨q,r,h1,h2,h3⟩:=h
  exact ⟨q,r,h1.mono hk,RT.mono hk h2,RT.mono hk h3⟩
theorem Keeps.below {lo:Nat} {row:Option Nat} {w w':World} (h:Below w.heap.size w w'):Keeps lo row w lo row w':=⟨h.size,fun k h0 h1 h2=>⟨h.block k h0,h1,h2⟩⟩
theorem RT.below {lo:Nat} {row:Option Nat} {w w':World} {t:KT} {p:Value} (h:RT lo row w t p) (hb:Below w.heap.size w w'):RT lo row w' t p:=RT.mono (Keeps.below hb) h
theorem RT.outside {lo x y:Nat} {w w':World} {t:KT} {p:Value} (h:RT lo none w t p) (hb:Outside x y w w') (hy:y≤lo):RT lo none w' t p:=
 RT.mono ⟨hb.size,fun k h0 h1 h2=>⟨hb.block k h0 (.inr (by omega)),h1,h2⟩⟩ h
theorem RT.lower {lo lo':Nat} {w:World} {t:KT} {p:Value} (h:RT lo none w t p) (hl:lo'≤lo):RT lo' none w t p:=
 RT.mono ⟨le_ _,fun k h0 h1 h2=>⟨rfl,by omega,h2⟩⟩ h
def KT.kids:KT→List KT
 | .leaf _=>[]
 | .star t=>[t]
 | .bin _ a b=>[a,b]
def Stk (lo:Nat) (row:Option Nat) (w:World):List Value→List KT→Prop
 | [],[]=>True
 | p :: ps,t :: ts=>RT lo row w t p∧Stk lo row w ps ts
 | _,_=>False
theorem Stk.mono {lo lo':Nat} {row row':Option Nat} {w w':World} (hk:Keeps lo row w lo' row' w'):∀ {ps:List Value} {ts:List KT},Stk lo row w ps ts→Stk lo' row' w' ps ts
 | [],[],_=>trivial
 | _ :: _,_ :: _,h=>⟨RT.mono hk h.1,Stk.mono hk h.2⟩
 | [],_ :: _,h=>h.elim
 | _ :: _,[],h=>h.elim
theorem Stk.length {lo:Nat} {row:Option Nat} {w:World}:∀ {ps:List Value} {ts:List KT},Stk lo row w ps ts→ps.length=ts.length
 | [],[],_=>rfl
 | _ :: _,_ :: _,h=>by simp [Stk.length h.2]
 | [],_ :: _,h=>h.elim
 | _ :: _,[],h=>h.elim
theorem Stk.get {lo:Nat} {row:Option Nat} {w:World}:∀ {ps:List Value} {ts:List KT},Stk lo row w ps ts→∀ i (h1:i<ps.length) (h2:i<ts.length),RT lo row w ts[i] ps[i]
 | [],_,_,i,h1,_=>by simp at h1
 | _ :: _,[],h,_,_,_=>h.elim
 | _ :: _,_ :: _,h,0,_,_=>h.1
 | _ :: ps,_ :: ts,h,i+1,h1,h2=>Stk.get h.2 i (by simpa using h1) (by simpa using h2)
theorem RT.node {lo:Nat} {row:Option Nat} {w:World} {t:KT} {p:Value} (h:RT lo row w t p):∃ ps,NodeAt lo row w p t.root ps∧Stk lo row w ps t.kids:=by
 cases t with
 | leaf n=>exact ⟨[],h,trivial⟩
 | star t=>obtain ⟨q,h1,h2⟩:=h;exact ⟨[q],h1,h2,trivial⟩
 | bin o a b=>obtain ⟨q,r,h1,h2,h3⟩:=h;exact ⟨[q,r],h1,h2,h3,trivial⟩
theorem Stk.push {lo:Nat} {row:Option Nat} {w:World} {s:Int} {st st':List KT} {ys ks:List Value} {p:Value} (hs:pushK s st=some st') (h:Stk lo row w (ys++ks).reverse st) (hk:(ks.length:Int)=takesI s)
  (hn:NodeAt lo row w p s ks):Stk lo row w (ys++[p]).reverse st':=by
 unfold pushK at hs
 split at hs
 ·rename_i h2
  split at hs
  ·injection hs with hs
   subst hs
   rw [h2] at hk
   match ks,hk with
   | [q,r],_=>
    simp only [List.reverse_append,List.reverse_cons,List.reverse_nil,List.nil_append,List.cons_append] at h ⊢
    obtain ⟨hb,ha,hr⟩:=h
    refine ⟨⟨q,r,?_,ha,hb⟩,hr⟩
    have hop:KT.op (s==20)=s:=by
     have:s=19∨s=20:=by
      unfold takesI at h2
      split at h2
      ·assumption
      ·split at h2<;>omega
     rcases this with rfl|rfl<;>rfl
    rw [hop]
    exact hn
  ·cases hs
 ·split at hs
  ·rename_i h1
   split at hs
   ·injection hs with hs
    subst hs
    rw [h1] at hk
    match ks,hk with
    | [q],_=>
     simp only [List.reverse_append,List.reverse_cons,List.reverse_nil,List.nil_append,List.cons_append] at h ⊢
     refine ⟨⟨q,?_,h.1⟩,h.2⟩
     have:s=21:=by
      unfold takesI at h1
      split at h1
      ·omega
      ·split at h1
       ·assumption
       ·omega
     subst this
     exact hn
   ·cases hs
  ·rename_i h2 h1
   injection hs with hs
   subst hs
   have h0:takesI s=0:=by
    have:=takesI_bd s
    omega
   rw [h0] at hk
   match ks,hk with
   | [],_=>
    simp only [List.append_nil,List.reverse_append,List.reverse_cons,List.reverse_nil,List.nil_append,List.cons_append] at h ⊢
    exact ⟨hn,h⟩
theorem pushK_takes {s:Int} {st st':List KT} (h:pushK s st=some st'):takesI s≤st.length∧(st'.length:Int)=st.length+1-takesI s:=by
 have hb:=takesI_bd s
 unfold pushK at h
 split at h
 ·rename_i h2
  split at h
  ·injection h with h;subst h;rw [h2];simp;omega
  ·cases h
 ·split at h
  ·rename_i h1
   split at h
   ·injection h with h;subst h;rw [h1];simp;omega
   ·cases h
  ·injection h with h;subst h
   have h0:takesI s=0:=by omega
   rw [h0];simp
theorem take_succ_rev (xs:List Int) (q:Nat) (h:q<xs.length):(xs.take (q+1)).reverse=xs[q] :: (xs.take q).reverse:=by
 rw [List.take_add_one,List.getElem?_eq_getElem h]
 simp
theorem l2Span_any (lo hi:Nat) (v:Value) (xs:List Int) (at_ c:Nat) (w:World) (hx:SlI lo hi w v xs) (hm:xs.length≤1048576) (ha:at_<xs.length) (hs:spanO (xs.take (at_+1)).reverse 1=some c) :
  Calls Tryz.prog 152 #[v,.int .i64 at_] w (RetI fun x w'=>x=((at_+1-c:Nat):Int)∧c≤at_+1∧w=w'):=by
 obtain ⟨a,cap,rfl,hcap,hcm,hc⟩:=hx.open
 clear hx hcm hcap
 have HS:=H_ hs
 clear hs
 go_enter Tryz.func152,Tryz.ntmps152
 go_wp2
 go_loop [5,6] (fun n i=>∃ (q:Nat) (need:Int) (r:Nat),q≤at_+1∧i=.int .i64 q∧n=.int .i64 need∧0≤need∧need≤1+(at_+1-q)∧Hid (spanO (xs.take q).reverse need=some r∧r+(at_+1)=c+q)) (fun _ i=>(intOf i).toNat)
 case atStart=>exact ⟨at_+1,1,c,le_ _,by go_num,rfl,by omega,by omega,H_ ⟨HS.out,by omega⟩⟩
 case round=>
  obtain ⟨q,need,r,hq,rfl,rfl,hn0,hn1,HI⟩:=hrel
  by_cases hpos:0<need
  ·have hq0:0<q:=by
    rcases Nat.eq_zero_or_pos q with h|h
    ·subst h
     have:=HI.out.1
     simp only [List.take_zero,List.reverse_nil,spanO] at this
     rw [if_neg (by omega)] at this
     cases this
    ·exact h
   obtain ⟨q,rfl⟩:∃ p,q=p+1:=⟨q-1,by omega⟩
   have hqx:q<xs.length:=by omega
   have hspan:=HI.out.1
   rw [take_succ_rev xs q hqx,spanO_cons _ _ _ hpos,Option.map_eq_some_iff] at hspan
   obtain ⟨r',hr1,hr2⟩:=hspan
   have HI2:=H_ (And.intro hr1 (show r'+(at_+1)=c+q by have:=HI.out.2;omega))
   obtain ⟨b,off,rfl,_,_,_,hcell⟩:=hc q hqx
   obtain ⟨t0,t1⟩:=takesI_bd xs[q]
   have hsub:(((q+1:Nat):Int))-1=(q:Int):=by omega
   clear hr1 hr2 hc
   go_wp2_with (go_at_call 117;refine (spec_takes _ _).mono ?_;rintro e w' ⟨rfl,rfl⟩)
   go_round
   case rel=>exact ⟨q,need-1+takesI xs[q],r',by omega,by first | rfl | go_num,rfl,by omega,by omega,HI2⟩
   case measure=>simp [intOf]
  ·obtain rfl:need=0:=by omega
   have hr0:r=0:=by
    have:=HI.out.1
    rw [spanO_zero] at this
    injection this with this
    exact this.symm
   have hfin:=HI.out.2
   go_wp2
   go_ret
   exact RetI.mk _ rfl ⟨by omega,by omega,rfl⟩
theorem SlI.sub {lo hi n cap:Nat} {w:World} {b off:Nat} {xs:List Int} (h:SlI lo hi w (.slice (some ⟨b,off,none⟩) n cap) xs) (i j:Nat) (hij:i≤j) (hj:j≤xs.length) :
  SlI lo hi w (.slice (some ⟨b,off+i,none⟩) (j-i) (cap-i)) ((xs.drop i).take (j-i)):=by
 obtain ⟨a,cp,e,h1,h2,h3,h4,h5⟩:=h
 injection e with e1 e2 e3
 subst e1 e2 e3
 have hl:((xs.drop i).take (j-i)).length=j-i:=by simp;omega
 refine ⟨_,_,by rw [hl],by rw [hl];omega,by omega,by rw [ints_length,hl];omega,(fun h=>by cases h),fun k hk=>?_⟩
 rw [ints_length,hl] at hk
 obtain ⟨b',off',f1,f2,f3,f4,f5⟩:=h5 (i+k) (by rw [ints_length];omega)
 injection f1 with f1
 injection f1 with f1 f1'
 subst f1 f1'
 refine ⟨b,off+i,rfl,f2,f3,f4,?_⟩
 rw [Nat.add_assoc,f5]
 simp only [ints,List.getElem?_map,List.getElem?_take,List.getElem?_drop]
 rw [if_pos (by omega)]
theorem SlI.notNil {lo hi n cap:Nat} {w:World} {a:Option Addr} {xs:List Int} (h:SlI lo hi w (.slice a n cap) xs) (h0:0<xs.length):∃ b off,a=some ⟨b,off,none⟩:=by
 obtain ⟨b,off,e,_⟩:=h.get 0 h0
 exact ⟨b,off,e⟩
def RetH (P:Value→Value→World→Prop) (e:Ending) (w':World):Prop:=∃ a b,e=.returned (.tuple #[a,b])∧P a b w'
theorem halves_span {lo:Int} {p:Bool} {a b:KT} (hb:b.ok lo=true):spanO (((KT.bin p a b).post).take ((KT.bin p a b).post.length-1)).reverse 1=some b.size:=by
 have h1:((KT.bin p a b).post).take ((KT.bin p a b).post.length-1)=a.post++b.post:=by
  have hl:(KT.bin p a b).post.length-1=(a.post++b.post).length:=by simp [KT.post]
  rw [hl]
  exact List.take_left
 rw [h1,List.reverse_append,spanO_post lo b hb _ _ (by omega)]
 simp [spanO_zero]
theorem l2Halves_any (lo hi:Nat) (v:Value) (bd:Int) (p:Bool) (x y:KT) (w:World) (hx:SlI lo hi w v (KT.bin p x y).post) (hm:(KT.bin p x y).post.length≤1048576) (hoy:y.ok bd=true) :
  Calls Tryz.prog 156 #[v] w (RetH fun a b w'=>(∃ m,w'=w.drewN m)∧SlI lo hi w a x.post∧SlI lo hi w b y.post):=by
 have HX:=H_ hx
 obtain ⟨a,cap,rfl,hcap,hcm,_⟩:=hx.open
 have hlen:(KT.bin p x y).post.length=x.size+y.size+1:=by rw [KT.post_length];rfl
 have hsx:=x.size_pos
 have hsy:=y.size_pos
 have hsp:=halves_span (p:=p) (a:=x) hoy
 obtain ⟨b,off,rfl⟩:=hx.notNil (by omega)
 have HC:=H_ (l2Span_any lo hi _ (KT.bin p x y).post (x.size+y.size-1) y.size w HX.out hm (by omega) (by rw [←hsp,hlen];congr 3;omega))
 have H1:=HX.out.sub 0 x.size (by omega) (by omega)
 have H2:=HX.out.sub x.size (x.size+y.size) (by omega) (by omega)
 have e1:(((KT.bin p x y).post.drop 0).take (x.size-0))=x.post:=by
  rw [List.drop_zero,Nat.sub_zero,←x.post_length]
  simp [KT.post]
 have e2:(((KT.bin p x y).post.drop x.size).take (x.size+y.size-x.size))=y.post:=by
  have:(KT.bin p x y).post.drop x.size=y.post++[KT.op p]:=by
   rw [←x.post_length]
   simp [KT.post]
  rw [this,show x.size+y.size-x.size=y.post.length by rw [y.post_length];omega,List.take_left]
 rw [e1] at H1
 rw [e2] at H2
 have HH:=H_ (And.intro H1 H2)
 unfold maxLen at hcm
 have hcast:((x.size+y.size-1:Nat):Int)=(x.size:Int)+y.size-1:=by omega
 rw [hlen] at hcap hm HC ⊢
 rw [hcast] at HC
 clear hx H1 H2 e1 e2 hsp hm
 go_enter Tryz.func156,Tryz.ntmps156
 go_wp2_with fail
 refine HC.out.mono ?_
 rintro e w1 ⟨x1,rfl,hx1,_,rfl⟩
 obtain rfl:x1=(x.size:Int):=by omega
 clear HC hx1
 have g1:(x.size:Int)≤cap:=by omega
 have g2:(x.size:Int)≤x.size+y.size:=by omega
 have g3:(x.size:Int)+y.size≤cap:=by omega
 have g4:(0:Int)≤(x.size:Int)+y.size:=by omega
 have g5:((x.size:Int)+y.size).toNat=x.size+y.size:=by omega
 have g6:((x.size:Int)+y.size-x.size).toNat=y.size:=by omega
 have g7:x.size≤cap:=by omega
 go_wp2_with fail
 go_region
 go_wp2
 go_ret2
 have h1:SlI lo hi w (.slice (some ⟨b,off,none⟩) x.size cap) x.post:=HH.out.1
 have h2:SlI lo hi w (.slice (some ⟨b,off+x.size,none⟩) y.size (cap-x.size)) y.post:=by
  have h:=HH.out.2
  rwa [Nat.add_sub_cancel_left] at h
 exact ⟨_,_,rfl,⟨1,rfl⟩,h1,h2⟩
theorem l1SameG_any (lo hi lo' hi':Nat) (v v':Value) (xs ys:List Int) (w:World) (hx:SlI lo hi w v xs) (hy:SlI lo' hi' w v' ys) (hm:xs.length≤16777216) (hm':ys.length≤16777216) :
  Calls Tryz.prog 65 #[v,v'] w fun e w'=>e=.returned (.bool (eqL xs ys))∧Below w.heap.size w w':=by
 obtain ⟨a,cap,rfl,hcap,hcm,hc⟩:=hx.open
 obtain ⟨a',cap',rfl,hcap',hcm',hc'⟩:=hy.open
 clear hx hcm hy hcm' hcap hcap'
 go_enter Tryz.func65,Tryz.ntmps65
 go_wp2
 go_loopw [5] (fun i wr=>∃ k m:Nat,k≤xs.length∧k≤ys.length∧i=.int .i64 k∧Hid (∀ j (h1:j<k) (h2:j<xs.length) (h3:j<ys.length),xs[j]=ys[j])∧wr=w.drewN m) (fun i _=>xs.length-(intOf i).toNat)
 case atStart=>exact ⟨0,0,by omega,by omega,rfl,H_ (by intro j h;omega),rfl⟩
 case round=>
  obtain ⟨k,m,hk,hk',rfl,HJ,rfl⟩:=hrel
  by_cases hlt:k<xs.length
  ·by_cases hlt':k<ys.length
   ·obtain ⟨b,off,rfl,_,_,hbs,hck⟩:=hc k hlt
    obtain ⟨b',off',rfl,_,_,hbs',hck'⟩:=hc' k hlt'
    clear hc hc'
    by_cases he:xs[k]=ys[k]
    ·have HE:=H_ he
     have he1:(xs[k] !=ys[k])=false:=by simp [he]
     clear he
     go_wp2
     go_quiet (fail)
     go_wp2
     go_roundw
     case rel=>
      refine ⟨k+1,m+nq,by omega,by omega,by go_num,H_ ?_,by first | rfl | rw [World.drewN_drewN]⟩
      intro j h1 h2 h3
      rcases Nat.lt_or_ge j k with h|h
      ·exact HJ.out j h h2 h3
      ·obtain rfl:j=k:=by omega
       exact HE.out
     case measure=>simp [intOf];omega
    ·have HE:=H_ he
     have he1:(xs[k] !=ys[k])=true:=by simp [he]
     clear he
     go_wp2
     go_quiet (fail)
     go_wp2
     go_ret
     exact ⟨ret_bool (eqL_ne hlt hlt' HE.out).symm,below_drewN (below_drewN (B_ _ _) _) _⟩
   ·have hne:((xs.length:Int)==ys.length)=false:=by simp;omega
    go_wp2
    go_ret
    exact ⟨ret_bool (eqL_len (by omega)).symm,below_drewN (B_ _ _) _⟩
  ·obtain rfl:k=xs.length:=by omega
   by_cases hl:xs.length=ys.length
   ·have hne:((xs.length:Int)==ys.length)=true:=by simp [hl]
    have HL:=H_ hl
    clear hl
    go_wp2
    go_ret
    exact ⟨ret_bool (eqL_all HL.out fun j h1 h2=>HJ.out j (by omega) h1 h2).symm,below_drewN (B_ _ _) _⟩
   ·have hne:((xs.length:Int)==ys.length)=false:=by simp;omega
    have HL:=H_ hl
    clear hl
    go_wp2
    go_ret
    exact ⟨ret_bool (eqL_len HL.out).symm,below_drewN (B_ _ _) _⟩
theorem l1Same_any (lo hi lo' hi':Nat) (v v':Value) (xs ys:List Int) (w:World) (hx:SlI lo hi w v xs) (hy:SlI lo' hi' w v' ys) (hm:xs.length≤1048576) (hm':ys.length≤1048576) :
  Calls Tryz.prog 65 #[v,v'] w fun e w'=>e=.returned (.bool (eqL xs ys))∧Below w.heap.size w w':=l1SameG_any lo hi lo' hi' v v' xs ys w hx hy (by omega) (by omega)
def RdI (w:World) (v:Value) (xs:List Int):Prop:=SlI 0 w.heap.size w v xs
theorem RdI.below {w w':World} {v:Value} {xs:List Int} (h:RdI w v xs) (hb:Below w.heap.size w w'):RdI w' v xs:=(SlI.below h hb (le_ _)).wide (le_ _) hb.size
theorem SlI.rd {lo hi:Nat} {w:World} {v:Value} {xs:List Int} (h:SlI lo hi w v xs) (hh:hi≤w.heap.size):RdI w v xs:=h.wide (Nat.zero_le _) hh
def RdV (w:World) (v:Value) (V:List (List Int)):Prop:=∃ vs,Sl 1 0 w.heap.size w v 3 vs∧∀ k,k<3→∃ u,vs[k]?=some u∧RdI w u (V.getD k [])
theorem RdV.below {w w':World} {v:Value} {V:List (List Int)} (h:RdV w v V) (hb:Below w.heap.size w w'):RdV w' v V:=by
 obtain ⟨vs,h1,h2⟩:=h
 refine ⟨vs,(h1.below hb (le_ _)).wide (le_ _) hb.size,fun k hk=>?_⟩
 obtain ⟨u,h3,h4⟩:=h2 k hk
 exact ⟨u,h3,h4.below hb⟩
theorem RdV.get {w:World} {v:Value} {V:List (List Int)} (h:RdV w v V) :
  ∃ b off cap,v=.slice (some ⟨b,off,none⟩) 3 cap∧3≤cap∧cap≤maxLen∧b<w.heap.size ∧
   ∀ k,k<3→∃ a c,w.cell? ⟨b,off+k,none⟩=some (.slice a (V.getD k []).length c)∧RdI w (.slice a (V.getD k []).length c) (V.getD k []):=by
 obtain ⟨vs,⟨a,cap,rfl,h1,h2,hl,hn,hc⟩,h3⟩:=h
 obtain ⟨b,off,rfl,_,hb,_,_⟩:=hc 0 (by omega)
 refine ⟨b,off,cap,rfl,h1,h2,hb,fun k hk=>?_⟩
 obtain ⟨b',off',e,_,_,_,h4⟩:=hc k (by omega)
 injection e with e
 injection e with e1 e2
 subst e1 e2
 obtain ⟨u,h5,h6⟩:=h3 k hk
 have h6':=h6
 obtain ⟨a',c',rfl,_⟩:=h6'.open
 exact ⟨a',c',by rw [h4,h5],h6⟩
def RetVB (P:Value→Bool→World→Prop) (e:Ending) (w':World):Prop:=∃ v b,e=.returned (.tuple #[v,.bool b])∧P v b w'
def MatchR (w:World) (r:Option (List (List Int))) (v:Value) (ok:Bool) (w':World):Prop:=
 Below w.heap.size w w'∧ok=r.isSome∧∃ V',GV V'∧RdV w' v V'∧∀ V'',r=some V''→V'=V''
def MatchC (p:KT):Prop:=p.ok (-3)=true→p.size≤60→∀ (t:KT) (V:List (List Int)) (w:World) (a b c:Value),t.ok 0=true→t.size≤40→GV V→RdI w a p.post→RdI w b t.post→RdV w c V →
 Calls Tryz.prog 153 #[a,b,c] w (RetVB (MatchR w (matchT p t V)))
theorem KT.post_root (t:KT):∃ m,t.post.length=m+1∧t.post[m]?=some t.root:=by
 cases t with
 | leaf n=>exact ⟨0,rfl,rfl⟩
 | star t=>exact ⟨t.post.length,by simp [KT.post],by simp [KT.post,KT.root]⟩
 | bin p a b=>exact ⟨(a.post++b.post).length,by simp [KT.post];omega,by simp [KT.post,KT.root]⟩
theorem RdI.last {w:World} {v:Value} {t:KT} (h:RdI w v t.post) :
  ∃ b off cap m,v=.slice (some ⟨b,off,none⟩) (m+1) cap∧t.size=m+1∧m+1≤cap∧cap≤maxLen∧b<w.heap.size∧w.cell? ⟨b,off+m,none⟩=some (.int .i64 t.root):=by
 obtain ⟨m,hm,hr⟩:=t.post_root
 obtain ⟨a,cap,rfl,h1,h2,hc⟩:=h.open
 obtain ⟨b,off,rfl,_,hb,_,h4⟩:=hc m (by omega)
 rw [hm] at h1
 refine ⟨b,off,cap,m,by rw [hm],by rw [←t.post_length,hm],h1,h2,hb,?_⟩
 rw [h4]
 rw [List.getElem?_eq_getElem (by omega)] at hr
 injection hr with hr
 rw [hr]
theorem MatchR.same {w w':World} {v:Value} {V:List (List Int)} (hV:GV V) (hr:RdV w v V) (hb:Below w.heap.size w w'):MatchR w (some V) v true w':=
 ⟨hb,rfl,V,hV,hr.below hb,fun V'' h=>by injection h⟩
theorem MatchR.none {w w':World} {v:Value} {V:List (List Int)} (hV:GV V) (hr:RdV w v V) (hb:Below w.heap.size w w'):MatchR w none v false w':=
 ⟨hb,rfl,V,hV,hr.below hb,fun V'' h=>by cases h⟩
theorem match_leaf (n:Int):MatchC (.leaf n):=by
 intro hp hps t V w va vb vc ht hts hV ha hb hc
 simp only [KT.ok,Bool.and_eq_true,decide_eq_true_eq] at hp
 obtain ⟨hp1,hp2⟩:=hp
 have HA:=H_ ha
 have HB:=H_ hb
 have HC:=H_ hc
 have HV:=H_ hV
 obtain ⟨pb,po,pc,pm,rfl,hpm,_,_,hpb,hpc⟩:=ha.last
 obtain rfl:pm=0:=by simp [KT.size] at hpm;omega
 simp only [KT.root,Nat.add_zero] at hpc
 obtain ⟨tb,to,tc,tm,rfl,htm,ht1,ht2,htb,htc⟩:=hb.last
 obtain ⟨cb,co,cc,rfl,_,_,hcb,hcc⟩:=hc.get
 have hsub:((tm+1:Nat):Int)-1=tm:=by omega
 have htm40:tm+1≤40:=by omega
 have hw0:Below w.heap.size w w:=B_ _ _
 clear ha hb hc hV hps hpm
 by_cases hn:n<0
 ·obtain ⟨k,hk,hkn⟩:∃ k:Nat,k<3∧(-1:Int)-n=k:=⟨(-1-n).toNat,by omega,by omega⟩
  have hvk:varK n=k:=by simp [varK,hkn]
  obtain ⟨ka,kc,hkc,hkr⟩:=hcc k hk
  have HKR:=H_ hkr
  have hkb:=HV.out.bd k
  have hk3:(k:Int)<3:=by omega
  clear hcc hkr
  by_cases h0:V.getD k []=[]
  ·have HR:Hid (matchT (.leaf n) t V=some (V.set k t.post)):=H_ (by rw [matchT,if_pos hn,hvk,if_pos h0])
   rw [h0] at hkc
   obtain ⟨vs,hsl,hel⟩:=HC.out
   have hone:∀ u∈vs,u.oneCell'=true:=by
    intro u hu
    obtain ⟨i,hi,rfl⟩:=List.getElem_of_mem hu
    have hl:vs.length=3:=by obtain ⟨_,_,_,_,_,h,_⟩:=hsl;omega
    obtain ⟨u',h1,h2⟩:=hel i (by omega)
    rw [List.getElem?_eq_getElem hi] at h1
    injection h1 with h1
    obtain ⟨_,_,h3,_⟩:=h2.open
    rw [h1,h3]
    rfl
   have HEL:=H_ hel
   have KVL:=H_ hsl
   have H0:Hid (Own 1 w.heap.size (w.heap.size+1) 22 (w.alloc (.cells #[] 22)) (.slice (some ⟨w.heap.size,0,none⟩) 0 0) 0 []):=H_ (Own.lit 1 22 w [] 0 (by omega) rfl)
   obtain ⟨w0,hw0'⟩:∃ w0,w0=w.alloc (.cells #[] 22):=⟨_,rfl⟩
   have hb0:Below w.heap.size w w0:=by rw [hw0'];exact (B_ _ _).alloc (le_ _) _
   have hs0:w0.heap.size=w.heap.size+1:=by rw [hw0'];simp
   rw [←hw0'] at H0
   have KV:=H_ (hsl.below hb0 (le_ _))
   have HB0:=H_ hb0
   have HW0:=H_ hw0'
   have HONE:=H_ hone
   clear hsl hel hone hb0 hw0'
   go_enter Tryz.func153,Tryz.ntmps153
   go_wp2_with (at_builtin;rw [show w.alloc (.cells #[] 22)=w0 from HW0.out.symm];refine wpList_app_sl rfl _ _ 119 rfl 22 (.slice none 0 0) 1 24 Tryz.underlying119 info_ints rfl (by decide) (by decide) rfl H0.out rfl KV.out HONE.out ?c1 ?c2 ?_)
   case c1=>omega
   case c2=>omega
   intro v1 w1 ho1 _ hout1 _
   have hs1:=hout1.size
   have HB1:=H_ (Below.outside HB0.out hout1 (le_ _) HB0.out.size)
   have KE:=H_ (HB.out.below HB1.out)
   obtain ⟨va,vcap,rfl,hv1,hv2,_,hv3⟩:=Own.open ho1
   obtain ⟨g,rfl,hg1,hg2⟩:=hv3 (by omega)
   have O1:=H_ ho1
   have H2:Hid (Own 1 w1.heap.size (w1.heap.size+1) 3 (w1.alloc (.cells #[] 3)) (.slice (some ⟨w1.heap.size,0,none⟩) 0 0) 0 (ints [])):=H_ (Own.lit 1 3 w1 (ints []) 0 (by omega) rfl)
   obtain ⟨w2,hw2⟩:∃ w2,w2=w1.alloc (.cells #[] 3):=⟨_,rfl⟩
   have hb2:Below w1.heap.size w1 w2:=by rw [hw2];exact (B_ _ _).alloc (le_ _) _
   have hs2:w2.heap.size=w1.heap.size+1:=by rw [hw2];simp
   rw [←hw2] at H2
   have HB2:=H_ hb2
   have KE2:=H_ (KE.out.below hb2)
   have O2:=H_ (ho1.below hb2 (le_ _))
   have hpl:t.post.length≤40:=by rw [KT.post_length];omega
   have hpl2:t.post.length=tm+1:=by rw [KT.post_length];omega
   have HW2:=H_ hw2
   clear ho1 hout1 H0 HW0 KV hb2 hw2 KE
   go_wp2_with (at_builtin;rw [show w1.alloc (.cells #[] 3)=w2 from HW2.out.symm];refine wpList_app_sl rfl _ _ 22 rfl 3 (.int .i64 0) 1 8 Tryz.underlying22 info_int rfl (by decide) (by decide) rfl H2.out rfl KE2.out (ints_one _) ?c1 ?c2 ?_)
   case c1=>omega
   case c2=>omega
   intro v3 w3 ho3 _ hout3 _
   have hs3:=hout3.size
   have O3:=H_ ho3
   replace O2:=H_ (O2.out.outside hout3 (.inl (le_ _)))
   have HB3:=H_ (HB1.out.trans (((Below.outside HB2.out hout3 (by omega) HB2.out.size)).mono (show w.heap.size≤w1.heap.size by omega)))
   obtain ⟨a3,cap3,rfl,_⟩:=Own.open ho3
   have hcg:=O2.out.1.cellAt k (by omega)
   have hfg:=O2.out.1.frozenAt k
   have hgs:g<w3.heap.size:=by omega
   have HST:=H_ (O2.out.1.stored k (.slice a3 (tm+1) cap3))
   obtain ⟨u0,hu0,hru⟩:=HEL.out k hk
   rw [hu0] at hcg
   obtain ⟨ua,uc,rfl,_⟩:=hru.open
   have hvl:vs.length=3:=by obtain ⟨_,_,_,_,_,h,_⟩:=KVL.out;omega
   clear ho3 hout3 O1 H2 HW2 HB2 hru KE2
   go_wp2
   refine bodyPost_ret (v:=.tuple #[.slice (some ⟨g,0,none⟩) 3 vcap,.bool true]) (by simp [results,Tryz.results153,go_sem]) rfl ⟨_,_,rfl,?_⟩
   rw [HR.out]
   have hst:=HST.out.1
   obtain ⟨w4,hw4⟩:∃ w4,w4=w3.setCell ⟨g,k,none⟩ (.slice a3 (tm+1) cap3):=⟨_,rfl⟩
   have hO4:Outside g (g+1) w3 w4:=by rw [hw4];exact (Outside.refl _ _ _).setCell (p:=⟨g,k,none⟩) (le_ _) (Nat.lt_succ_self _) _
   rw [←hw4] at hst ⊢
   have hs4:=hO4.size
   have hB4:Below w.heap.size w w4:=Below.outside HB3.out hO4 hg1 HB3.out.size
   refine ⟨hB4,rfl,V.set k t.post,HV.out.set k t ht hts,⟨vs.set k (.slice a3 (tm+1) cap3),?_,fun i hi=>?_⟩,fun V'' h=>by injection h⟩
   ·have hs:Own 1 w.heap.size w4.heap.size 22 w4 (.slice (some ⟨g,0,none⟩) 3 vcap) 3 (vs.set k (.slice a3 (tm+1) cap3)):=⟨by simpa using hst,fun q hq=>by simp [Value.ownBlock] at hq;omega⟩
    exact (Own.sl hs).wide (Nat.zero_le _) (le_ _)
   ·by_cases hik:k=i
    ·subst hik
     refine ⟨_,by rw [List.getElem?_set_self (by omega)],?_⟩
     have hVk:(V.set k t.post).getD k []=t.post:=by
      have:=HV.out.len
      simp [List.getD,this,hi]
     rw [hVk]
     have h3:SlI w1.heap.size w3.heap.size w3 (.slice a3 (tm+1) cap3) t.post:=by
      have h:=(Own.sl O3.out)
      simp only [ints,List.map_nil,List.nil_append] at h
      unfold SlI
      rw [hpl2]
      exact h
     exact (h3.outside hO4 (.inr (by omega))).wide (Nat.zero_le _) hs4
    ·have hVi:(V.set k t.post).getD i []=V.getD i []:=by simp [List.getD,List.getElem?_set_ne hik]
     obtain ⟨u,h1,h2⟩:=HEL.out i hi
     refine ⟨u,by rw [List.getElem?_set_ne hik,h1],?_⟩
     rw [hVi]
     exact h2.below hB4
  ·have hlen:0<(V.getD k []).length:=by cases h:V.getD k [] with | nil=>exact absurd h h0 | cons _ _=>simp
   have hkd:=HV.out.bd k
   by_cases hq:V.getD k []=t.post
   ·have HR:Hid (matchT (.leaf n) t V=some V):=H_ (by rw [matchT,if_pos hn,hvk,if_neg h0,if_pos hq])
    have HCS:=H_ (l1Same_any _ _ _ _ _ _ (V.getD k []) t.post w HKR.out HB.out (by omega) (by rw [KT.post_length];omega))
    have hQ:=H_ (show eqL (V.getD k []) t.post=true by rw [hq];simp [eqL])
    clear hq
    go_enter Tryz.func153,Tryz.ntmps153
    go_wp2_with fail
    refine HCS.out.mono ?_
    rintro e w1 ⟨rfl,hb⟩
    rw [hQ.out]
    go_wp2
    refine bodyPost_ret (v:=.tuple #[.slice (some ⟨cb,co,none⟩) 3 cc,.bool true]) (by simp [results,Tryz.results153,go_sem]) rfl ⟨_,_,rfl,?_⟩
    rw [HR.out]
    exact MatchR.same HV.out HC.out hb
   ·have HR:Hid (matchT (.leaf n) t V=none):=H_ (by rw [matchT,if_pos hn,hvk,if_neg h0,if_neg hq])
    have HCS:=H_ (l1Same_any _ _ _ _ _ _ (V.getD k []) t.post w HKR.out HB.out (by omega) (by rw [KT.post_length];omega))
    have hQ:=H_ (show eqL (V.getD k []) t.post=false by simpa [eqL] using hq)
    clear hq
    go_enter Tryz.func153,Tryz.ntmps153
    go_wp2_with fail
    refine HCS.out.mono ?_
    rintro e w1 ⟨rfl,hb⟩
    rw [hQ.out]
    go_wp2
    refine bodyPost_ret (v:=.tuple #[.slice (some ⟨cb,co,none⟩) 3 cc,.bool false]) (by simp [results,Tryz.results153,go_sem]) rfl ⟨_,_,rfl,?_⟩
    rw [HR.out]
    exact MatchR.none HV.out HC.out hb
 ·have hn0:0≤n:=by omega
  by_cases hq:t.root=n
  ·have HR:Hid (matchT (.leaf n) t V=some V):=H_ (by rw [matchT,if_neg hn,if_pos hq])
   rw [hq] at htc
   have hn19:n<19:=by omega
   have hn21:(n==21)=false:=by simp;omega
   have hnn:(n !=n)=false:=by simp
   clear hq
   go_enter Tryz.func153,Tryz.ntmps153
   go_wp2
   refine bodyPost_ret (v:=.tuple #[.slice (some ⟨cb,co,none⟩) 3 cc,.bool true]) (by simp [results,Tryz.results153,go_sem]) rfl ⟨_,_,rfl,?_⟩
   rw [HR.out]
   exact MatchR.same HV.out HC.out hw0
  ·have HR:Hid (matchT (.leaf n) t V=none):=H_ (by rw [matchT,if_neg hn,if_neg hq])
   have hnn:(t.root !=n)=true:=by simpa using hq
   clear hq
   go_enter Tryz.func153,Tryz.ntmps153
   go_wp2
   refine bodyPost_ret (v:=.tuple #[.slice (some ⟨cb,co,none⟩) 3 cc,.bool false]) (by simp [results,Tryz.results153,go_sem]) rfl ⟨_,_,rfl,?_⟩
   rw [HR.out]
   exact MatchR.none HV.out HC.out hw0
theorem RdI.front {w:World} {b off n cap:Nat} {xs:List Int} {s:Int} (h:RdI w (.slice (some ⟨b,off,none⟩) n cap) (xs++[s])):RdI w (.slice (some ⟨b,off,none⟩) xs.length cap) xs:=by
 have h1:=SlI.sub h 0 xs.length (Nat.zero_le _) (by simp)
 simp only [Nat.add_zero,Nat.sub_zero,List.drop_zero,List.take_left] at h1
 exact h1
theorem MatchR.from {w w1 w':World} {r:Option (List (List Int))} {v:Value} {ok:Bool} (hb:Below w.heap.size w w1) (h:MatchR w1 r v ok w'):MatchR w r v ok w':=
 ⟨hb.trans (h.1.mono hb.size),h.2⟩
theorem match_star (p:KT) (ih:MatchC p):MatchC (.star p):=by
 intro hp hps t V w va vb vc ht hts hV ha hb hc
 have HIH:=H_ ih
 have HP:=H_ (show p.ok (-3)=true from hp)
 have HPS:=H_ (show p.size≤60 by simp only [KT.size] at hps;omega)
 have HA:=H_ ha
 have HB:=H_ hb
 have HC:=H_ hc
 have HV:=H_ hV
 obtain ⟨pb,po,pc,pm,rfl,hpm,hpc1,hpc2,hpb,hpc⟩:=ha.last
 simp only [KT.root] at hpc
 simp only [KT.size] at hpm
 obtain ⟨tb,to,tc,tm,rfl,htm,ht1,ht2,htb,htc⟩:=hb.last
 obtain ⟨cb,co,cc,rfl,_,_,hcb,_⟩:=hc.get
 have hsub:((tm+1:Nat):Int)-1=tm:=by omega
 have hsub2:((pm+1:Nat):Int)-1=pm:=by omega
 have htm40:tm+1≤40:=by omega
 have hpm60:pm+1≤60:=by simp only [KT.size] at hps;omega
 have hw0:Below w.heap.size w w:=B_ _ _
 clear hc hV hp hps ih
 have n1:¬((21:Int)<0):=by decide
 by_cases hq:t.root=21
 ·obtain ⟨t',rfl⟩:∃ t',t=.star t':=by
   cases t with
   | leaf n=>simp only [KT.ok,Bool.and_eq_true,decide_eq_true_eq] at ht;simp only [KT.root] at hq;omega
   | star t'=>exact ⟨t',rfl⟩
   | bin q _ _=>cases q<;>simp [KT.root,KT.op] at hq
  simp only [KT.root] at htc
  simp only [KT.size] at htm hts
  have HT:=H_ (show t'.ok 0=true from ht)
  have HA1:Hid (RdI w (.slice (some ⟨pb,po,none⟩) pm pc) p.post):=by
   have h:=RdI.front (xs:=p.post) (s:=21) ha
   rw [p.post_length,show p.size=pm by omega] at h
   exact H_ h
  have HB1:Hid (RdI w (.slice (some ⟨tb,to,none⟩) tm tc) t'.post):=by
   have h:=RdI.front (xs:=t'.post) (s:=21) hb
   rw [t'.post_length,show t'.size=tm by omega] at h
   exact H_ h
  have HR:Hid (matchT (.star p) (.star t') V=matchT p t' V):=H_ (by rw [matchT])
  have hwd:Below w.heap.size w w.drew:=hw0.drew
  have HCL:=H_ (HIH.out HP.out HPS.out t' V w.drew _ _ _ HT.out (by omega) HV.out (HA1.out.below hwd) (HB1.out.below hwd) (HC.out.below hwd))
  have g1:pm≤pc:=by omega
  have g2:(pm:Int)≤pc:=by omega
  have g3:tm≤tc:=by omega
  have g4:(tm:Int)≤tc:=by omega
  have r1:IntKind.i64.wrap (tm:Int)=tm:=by simp [IntKind.wrap,IntKind.bits,IntKind.signed];omega
  have r4:(0:Int)≤tm:=by omega
  clear ha hb ht hts hq HIH
  go_enter Tryz.func153,Tryz.ntmps153
  go_wp2_with fail
  go_region_with (go_at_call 153;refine (HCL.out).mono ?_;rintro e w1 ⟨v1,b1,rfl,hres⟩)
  all_goals (
   go_wp2
   refine bodyPost_ret (v:=.tuple #[v1,.bool b1]) (by simp [results,Tryz.results153,go_sem]) rfl ⟨_,_,rfl,?_⟩
   rw [HR.out]
   exact MatchR.from hwd hres)
 ·have HR:Hid (matchT (.star p) t V=none):=by
   cases t with
   | star t'=>exact absurd rfl hq
   | leaf n=>exact H_ (by simp [matchT])
   | bin _ _ _=>exact H_ (by simp [matchT])
  have hnn:(t.root !=21)=true:=by simpa using hq
  clear hq ha hb
  go_enter Tryz.func153,Tryz.ntmps153
  go_wp2
  refine bodyPost_ret (v:=.tuple #[.slice (some ⟨cb,co,none⟩) 3 cc,.bool false]) (by simp [results,Tryz.results153,go_sem]) rfl ⟨_,_,rfl,?_⟩
  rw [HR.out]
  exact MatchR.none HV.out HC.out hw0
theorem matchT_bin {q r:Bool} (a b c d:KT) (V:List (List Int)):matchT (.bin q a b) (.bin r c d) V=if q=r then (matchT a c V).bind (matchT b d) else none:=by rw [matchT]
theorem match_bin (q:Bool) (pa pb':KT) (iha:MatchC pa) (ihb:MatchC pb'):MatchC (.bin q pa pb'):=by
 intro hp hps t V w va vb vc ht hts hV ha hb hc
 have HIA:=H_ iha
 have HIB:=H_ ihb
 simp only [KT.ok,Bool.and_eq_true] at hp
 have HP:=H_ hp
 have HPS:=H_ (show pa.size≤60∧pb'.size≤60 by simp only [KT.size] at hps;omega)
 have HA:=H_ ha
 have HB:=H_ hb
 have HC:=H_ hc
 have HV:=H_ hV
 obtain ⟨pb,po,pc,pm,rfl,hpm,hpc1,hpc2,hpb,hpc⟩:=ha.last
 simp only [KT.root] at hpc
 obtain ⟨tb,to,tc,tm,rfl,htm,ht1,ht2,htb,htc⟩:=hb.last
 obtain ⟨cb,co,cc,rfl,_,_,hcb,_⟩:=hc.get
 have hsub:((tm+1:Nat):Int)-1=tm:=by omega
 have hsub2:((pm+1:Nat):Int)-1=pm:=by omega
 have htm40:tm+1≤40:=by omega
 have hpm60:pm+1≤60:=by omega
 have hw0:Below w.heap.size w w:=B_ _ _
 have n1:¬(KT.op q<0):=by cases q<;>simp [KT.op]
 have n2:¬(KT.op q<19):=by cases q<;>simp [KT.op]
 have n3:(KT.op q==21)=false:=by cases q<;>simp [KT.op]
 clear hc hV hp iha ihb
 by_cases hq:t.root=KT.op q
 ·obtain ⟨c,d,rfl⟩:∃ c d,t=.bin q c d:=by
   cases t with
   | leaf n=>simp only [KT.ok,Bool.and_eq_true,decide_eq_true_eq] at ht;cases q<;>simp only [KT.root,KT.op] at hq<;>(simp at hq;omega)
   | star t'=>cases q<;>simp [KT.root,KT.op] at hq
   | bin r c d=>cases q<;>cases r<;>first | exact ⟨c,d,rfl⟩ | simp [KT.root,KT.op] at hq
  simp only [KT.root] at htc
  simp only [KT.ok,Bool.and_eq_true] at ht
  have HT:=H_ ht
  have HTS:=H_ (show c.size≤40∧d.size≤40 by simp only [KT.size] at hts;omega)
  have HM:=H_ ((matchT_bin (q:=q) (r:=q) pa pb' c d V).trans (if_pos rfl))
  have HC1:=H_ (l2Halves_any 0 w.heap.size _ (-3) q pa pb' w HA.out (by rw [KT.post_length];omega) HP.out.2)
  have hnn:(KT.op q !=KT.op q)=false:=by simp
  clear ha hb ht hq hps
  go_enter Tryz.func153,Tryz.ntmps153
  go_wp2_with fail
  refine HC1.out.mono ?_
  rintro e w1 ⟨a1,a2,rfl,hm1,h1,h2⟩
  have hd1:Below w.heap.size w w1:=by obtain ⟨m,rfl⟩:=hm1;exact below_drewN hw0 m
  have H1:=H_ (RdI.below h1 hd1)
  have H2:=H_ (RdI.below h2 hd1)
  have HB1:=H_ hd1
  replace HB:=H_ (HB.out.below HB1.out)
  replace HC:=H_ (HC.out.below HB1.out)
  clear h1 h2 HC1 HA hm1 hd1
  have HC2:=H_ (l2Halves_any 0 w1.heap.size _ 0 q c d w1 HB.out (by rw [KT.post_length];omega) HT.out.2)
  go_wp2_with fail
  refine HC2.out.mono ?_
  rintro e w2 ⟨b1,b2,rfl,hm2,h1,h2⟩
  have hd2:Below w1.heap.size w1 w2:=by obtain ⟨m,rfl⟩:=hm2;exact below_drewN (B_ _ _) m
  have G1:=H_ (RdI.below h1 hd2)
  have G2:=H_ (RdI.below h2 hd2)
  replace H1:=H_ (H1.out.below hd2)
  replace H2:=H_ (H2.out.below hd2)
  replace HB1:=H_ (HB1.out.trans (hd2.mono HB1.out.size))
  replace HC:=H_ (HC.out.below hd2)
  clear h1 h2 HC2 HB hd2 hm2
  go_wp2_with fail
  refine (HIA.out HP.out.1 HPS.out.1 c V _ _ _ _ HT.out.1 HTS.out.1 HV.out H1.out G1.out HC.out).mono ?_
  rintro e w3 ⟨v3,b3,rfl,hb3,rfl,V3,hg3,hr3,hx3⟩
  replace H2:=H_ (H2.out.below hb3)
  replace G2:=H_ (G2.out.below hb3)
  replace HC:=H_ (HC.out.below hb3)
  replace HB1:=H_ (HB1.out.trans (hb3.mono HB1.out.size))
  have HR3:=H_ hr3
  have HG3:=H_ hg3
  have HX:=H_ hx3
  clear hb3 hr3 hg3 hx3
  cases hres:matchT pa c V with
  | none=>
   have HN:=H_ hres
   clear hres
   simp only [Option.isSome_none]
   go_wp2
   refine bodyPost_ret (v:=.tuple #[.slice (some ⟨cb,co,none⟩) 3 cc,.bool false]) (by simp [results,Tryz.results153,go_sem]) rfl ⟨_,_,rfl,?_⟩
   rw [HM.out,HN.out]
   exact ⟨HB1.out,rfl,V,HV.out,HC.out,fun V'' h=>by cases h⟩
  | some V'=>
   have HN:=H_ hres
   obtain rfl:V3=V':=HX.out V' hres
   clear hres
   simp only [Option.isSome_some]
   go_wp2_with fail
   refine (HIB.out HP.out.2 HPS.out.2 d V3 _ _ _ _ HT.out.2 HTS.out.2 HG3.out H2.out G2.out HR3.out).mono ?_
   rintro e w4 ⟨v4,b4,rfl,hres⟩
   go_wp2
   refine bodyPost_ret (v:=.tuple #[v4,.bool b4]) (by simp [results,Tryz.results153,go_sem]) rfl ⟨_,_,rfl,?_⟩
   rw [HM.out,HN.out]
   exact MatchR.from HB1.out hres
 ·have HR:Hid (matchT (.bin q pa pb') t V=none):=by
   cases t with
   | bin r c d=>exact H_ (by rw [matchT_bin,if_neg];intro h;subst h;exact hq rfl)
   | leaf n=>exact H_ (by simp [matchT])
   | star _=>exact H_ (by simp [matchT])
  have hnn:(t.root !=KT.op q)=true:=by simpa using hq
  clear hq ha hb
  go_enter Tryz.func153,Tryz.ntmps153
  go_wp2
  refine bodyPost_ret (v:=.tuple #[.slice (some ⟨cb,co,none⟩) 3 cc,.bool false]) (by simp [results,Tryz.results153,go_sem]) rfl ⟨_,_,rfl,?_⟩
  rw [HR.out]
  exact MatchR.none HV.out HC.out hw0
theorem l9Match_any:∀ p:KT,MatchC p
 | .leaf n=>match_leaf n
 | .star p=>match_star p (l9Match_any p)
 | .bin q a b=>match_bin q a b (l9Match_any a) (l9Match_any b)
theorem fillT_end (xs:List Int) (V:List (List Int)) (k:Nat) (h:xs.length≤k):fillT (xs.drop k) V=some []:=by rw [List.drop_of_length_le h];rfl
theorem fillT_step (xs:List Int) (V:List (List Int)) (k:Nat) (h:k<xs.length) :
  fillT (xs.drop k) V=if 0≤xs[k] then (fillT (xs.drop (k+1)) V).map (xs[k] :: ·) else if V.getD (varK xs[k]) []=[] then none else (fillT (xs.drop (k+1)) V).map (V.getD (varK xs[k]) []++·):=by
 rw [List.drop_eq_getElem_cons h,fillT]
def FillR (w:World) (r:Option (List Int)) (v:Value) (ok:Bool) (w':World):Prop:=
 Below w.heap.size w w'∧ok=r.isSome∧(∃ l,SlI w.heap.size w'.heap.size w' v l)∧∀ out,r=some out→OwnI w.heap.size w'.heap.size 3 w' v out
theorem l9Fill_any (xs:List Int) (V:List (List Int)) (w:World) (va vc:Value) (hxs:∀ i (h:i<xs.length),-3≤xs[i]) (hxl:xs.length≤60) (hV:GV V) (ha:RdI w va xs) (hc:RdV w vc V) :
  Calls Tryz.prog 154 #[va,vc] w (RetVB (FillR w (fillT xs V))):=by
 have HA:=H_ ha
 have HC:=H_ hc
 have HV:=H_ hV
 have HXS:=H_ hxs
 obtain ⟨a,cap,rfl,hcap,hcm,hca⟩:=ha.open
 obtain ⟨cb,co,cc,rfl,_,_,hcb,hcc⟩:=hc.get
 have HCA:=H_ hca
 have HCC:=H_ hcc
 have h0:Own 1 w.heap.size (w.alloc (.cells #[] 3)).heap.size 3 (w.alloc (.cells #[] 3)) (.slice (some ⟨w.heap.size,0,none⟩) 0 0) 0 (ints []):=Own.wide (Own.lit 1 3 w (ints []) 0 (by omega) rfl) (by simp)
 have H0:=H_ h0
 have HB0:=H_ ((B_ w.heap.size w).alloc (le_ _) (.cells #[] 3))
 clear ha hc hV hxs hca hcc h0
 go_enter Tryz.func154,Tryz.ntmps154
 go_wp2
 go_loopw [6,7] (fun v i wr=>∃ (k:Nat) (acc:List Int),k≤xs.length∧i=.int .i64 k∧acc.length≤40*k∧Hid (Own 1 w.heap.size wr.heap.size 3 wr v acc.length (ints acc)∧Below w.heap.size w wr∧fillT xs V=(fillT (xs.drop k) V).map (acc++·))) (fun _ i _=>xs.length-(intOf i).toNat)
 case atStart=>exact ⟨0,[],by omega,rfl,by simp,H_ ⟨H0.out,HB0.out,by rw [List.drop_zero];cases fillT xs V<;>simp⟩⟩
 case round=>
  obtain ⟨k,acc,hk,rfl,hal,HR⟩:=hrel
  have HO:=H_ HR.out.1
  have HB:=H_ HR.out.2.1
  have HF:=H_ HR.out.2.2
  obtain ⟨oa,ocap,rfl,_⟩:=Own.open HO.out
  have hsz:=HB.out.size
  by_cases hlt:k<xs.length
  ·obtain ⟨b,off,rfl,_,hb,_,hck⟩:=HCA.out k hlt
   have hckr:wr.cell? ⟨b,off+k,none⟩=some (.int .i64 xs[k]):=by rw [HB.out.cell (p:=⟨b,off+k,none⟩) hb];exact hck
   have hst:=fillT_step xs V k hlt
   have hlo:=HXS.out k hlt
   have HST:=H_ hst
   clear hck hst HR
   by_cases hn:0≤xs[k]
   ·have HF2:Hid (fillT xs V=(fillT (xs.drop (k+1)) V).map ((acc++[xs[k]])++·)):=by
     refine H_ ?_
     rw [HF.out,HST.out,if_pos hn]
     cases fillT (xs.drop (k+1)) V<;>simp
    clear HST
    go_wp2_with (at_builtin;refine wpList_app_lit wr rfl _ _ 22 rfl 3 (.int .i64 0) 1 8 Tryz.underlying22 info_int rfl (by decide) (by decide) rfl HO.out 1 (ints [xs[k]]) rfl rfl (ints_one _) rfl ?c1 ?c2 ?_)
    case c1=>omega
    case c2=>omega
    intro v1 w1 ho1 hout1 _
    have hs1:=hout1.size
    have HO1:=H_ ho1
    have HB1:=H_ (Below.outside HB.out hout1 (le_ _) HB.out.size)
    clear ho1 hout1
    go_wp2
    go_roundw
    case rel=>exact ⟨k+1,acc++[xs[k]],by omega,by go_num,by simp;omega,H_ ⟨by rw [List.length_append,ints_append];exact HO1.out,HB1.out,HF2.out⟩⟩
    case measure=>simp [intOf];omega
   ·obtain ⟨j,hj,hjn⟩:∃ j:Nat,j<3∧(-1:Int)-xs[k]=j:=⟨(-1-xs[k]).toNat,by omega,by omega⟩
    have hvj:varK xs[k]=j:=by simp [varK,hjn]
    rw [hvj] at HST
    obtain ⟨ua,uc,hu1,hu2⟩:=HCC.out j hj
    have hbd:=HV.out.bd j
    obtain ⟨Q,hQ⟩:∃ Q,Q=V.getD j []:=⟨_,rfl⟩
    rw [←hQ] at HST hu1 hu2 hbd
    clear hQ
    have hu1r:wr.cell? ⟨cb,co+j,none⟩=some (.slice ua (Q).length uc):=by rw [HB.out.cell (p:=⟨cb,co+j,none⟩) hcb];exact hu1
    have HU:=H_ (hu2.below HB.out)
    have hj3:(j:Int)<3:=by omega
    clear hu1 hu2
    by_cases he:Q=[]
    ·have HF2:Hid (fillT xs V=none):=by
      refine H_ ?_
      rw [HF.out,HST.out,if_neg hn,if_pos he]
      rfl
     rw [he] at hu1r
     clear HST
     go_wp2
     refine bodyPost_ret (v:=.tuple #[.slice (some ⟨wr.heap.size,0,none⟩) 0 0,.bool false]) (by simp [results,Tryz.results154,go_sem]) rfl ⟨_,_,rfl,?_⟩
     rw [HF2.out]
     have hl:=(Own.lit 1 3 wr (ints []) 0 (by omega) rfl).sl
     exact ⟨HB.out.alloc (by omega) _,rfl,⟨[],(Sl.wide hl hsz (by simp):_)⟩,fun out h=>by cases h⟩
    ·have hlen:0<(Q).length:=List.length_pos_iff.2 he
     have HF2:Hid (fillT xs V=(fillT (xs.drop (k+1)) V).map ((acc++Q)++·)):=by
      refine H_ ?_
      rw [HF.out,HST.out,if_neg hn,if_neg he]
      cases fillT (xs.drop (k+1)) V<;>simp
     have hne:(((Q).length:Int)==0)=false:=by simp;omega
     clear HST he
     go_wp2_with (at_builtin;refine wpList_app_sl rfl _ _ 22 rfl 3 (.int .i64 0) 1 8 Tryz.underlying22 info_int rfl (by decide) (by decide) rfl HO.out rfl HU.out (ints_one _) ?c1 ?c2 ?_)
     case c1=>omega
     intro v1 w1 ho1 _ hout1 _
     have hs1:=hout1.size
     have HO1:=H_ ho1
     have HB1:=H_ (Below.outside HB.out hout1 (le_ _) HB.out.size)
     clear ho1 hout1
     go_wp2
     go_roundw
     case rel=>exact ⟨k+1,acc++Q,by omega,by go_num,by simp only [List.length_append];omega,H_ ⟨by rw [List.length_append,ints_append];exact HO1.out,HB1.out,HF2.out⟩⟩
     case measure=>simp [intOf];omega
  ·obtain rfl:k=xs.length:=by omega
   have HF2:Hid (fillT xs V=some acc):=by
    refine H_ ?_
    rw [HF.out,fillT_end _ _ _ (le_ _)]
    simp
   clear HR HF
   go_wp2
   refine bodyPost_ret (v:=.tuple #[.slice oa acc.length ocap,.bool true]) (by simp [results,Tryz.results154,go_sem]) rfl ⟨_,_,rfl,?_⟩
   rw [HF2.out]
   exact ⟨HB.out,rfl,⟨acc,HO.out.sl⟩,fun out h=>by injection h with h;subst h;exact HO.out⟩
def zeroV:List (List Int):=[[],[],[]]
def moveAt (e:List Int) (m:Mv):Option (List Int):=
 let k:=m.at_.toNat
 let c:=(spanO (e.take (k+1)).reverse 1).getD 0
 ((matchT (treeOf (ruleS m.which.toNat (!m.back))) (treeOf ((e.drop (k+1-c)).take c)) zeroV).bind (fillT (ruleS m.which.toNat m.back))).bind fun part=>
  if (e.take (k+1-c)++part++e.drop (k+1)).length≤40 then some (e.take (k+1-c)++part++e.drop (k+1)) else none
def moveV (e:List Int) (m:Mv):Option (List Int):=
 if katV e&&isR m.which&&inB m.at_ 0 (e.length-1) then moveAt e m else none
theorem moveV_rule {e:List Int} {m:Mv} (h:isR m.which=false):moveV e m=none:=by simp [moveV,h]
theorem moveV_at {e:List Int} {m:Mv} (h:inB m.at_ 0 (e.length-1)=false):moveV e m=none:=by simp [moveV,h]
theorem take_mid (a b c:List Int):((a++b++c).drop a.length).take b.length=b:=by simp
structure MoveO (e:List Int) (m:Mv) (k:Nat) (pre rest:List Int) (t:KT) (p:KT) (q:List Int):Prop where
 eq:e=pre++t.post++rest
 keq:pre.length+t.size=k+1
 ok:t.ok 0=true
 sz:t.size≤40
 span:spanO (e.take (k+1)).reverse 1=some t.size
 pok:p.ok (-3)=true
 psz:p.size≤40
 from_:p.post=ruleS m.which.toNat (!m.back)
 to_:q=ruleS m.which.toNat m.back
 qlo:∀ i (h:i<q.length),-3≤q[i]
 ql:q.length≤40
 el:e.length≤40
 mv:moveV e m=((matchT p t zeroV).bind (fillT q)).bind fun part=>if (pre++part++rest).length≤40 then some (pre++part++rest) else none
 val:∀ V part,matchT p t zeroV=some V→fillT q V=some part→1≤part.length∧part.length≤1600∧katV (pre++part++rest)=decide ((pre++part++rest).length≤40)
theorem ok_post_lo {lo:Int} (hlo:lo≤0):∀ (t:KT),t.ok lo=true→∀ x∈t.post,lo≤x
 | .leaf n,h,x,hx=>by
  simp only [KT.ok,Bool.and_eq_true,decide_eq_true_eq] at h
  simp only [KT.post,List.mem_singleton] at hx
  omega
 | .star t,h,x,hx=>by
  simp only [KT.ok] at h
  simp only [KT.post,List.mem_append,List.mem_singleton] at hx
  rcases hx with hx|hx
  ·exact ok_post_lo hlo t h x hx
  ·omega
 | .bin p a b,h,x,hx=>by
  simp only [KT.ok,Bool.and_eq_true] at h
  simp only [KT.post,List.mem_append,List.mem_singleton] at hx
  rcases hx with (hx|hx)|hx
  ·exact ok_post_lo hlo a h.1 x hx
  ·exact ok_post_lo hlo b h.2 x hx
  ·have:19≤x:=by cases p<;>simp [KT.op] at hx<;>omega
   omega
theorem move_open {e:List Int} {m:Mv} {k:Nat} (hv:katV e=true) (hr:isR m.which=true) (hk:m.at_=k) (hlt:k<e.length) :
  ∃ pre rest t p q,MoveO e m k pre rest t p q:=by
 obtain ⟨pre,rest,t,h1,h2,h3,h4,h5⟩:=part_at hv k hlt
 have hn:m.which.toNat<21:=by simp [isR,inB] at hr;omega
 obtain ⟨r1,r2,r3⟩:=rule_tree _ hn (!m.back)
 obtain ⟨s1,s2,s3⟩:=rule_tree _ hn m.back
 have hin:inB m.at_ 0 (e.length-1)=true:=by simp [inB,hk];omega
 have hel:e.length≤40:=by
  simp only [katV,Bool.and_eq_true,decide_eq_true_eq] at hv
  exact hv.1.2
 have hb:k+1-t.size=pre.length:=by omega
 have ht1:e.take (k+1-t.size)=pre:=by rw [hb,h1,List.append_assoc,List.take_left]
 have ht2:(e.drop (k+1-t.size)).take t.size=t.post:=by rw [hb,h1,←t.post_length,take_mid]
 have ht3:e.drop (k+1)=rest:=by
  have:k+1=(pre++t.post).length:=by rw [List.length_append,t.post_length];omega
  rw [this,h1,List.drop_left]
 refine ⟨pre,rest,t,treeOf (ruleS m.which.toNat (!m.back)),ruleS m.which.toNat m.back,⟨h1,h2,h3,h4,h5,r1,by rw [←KT.post_length,r2];exact r3,r2,rfl,?_,s3,hel,?_,?_⟩⟩
 ·intro i h
  have hm:=List.getElem_mem h
  have ha:=ok_post_lo (by decide) _ s1
  rw [s2] at ha
  exact ha _ hm
 ·rw [moveV,hv,hr,hin]
  simp only [Bool.and_self,if_true]
  unfold moveAt
  simp only [hk,Int.toNat_natCast,h5,Option.getD_some,ht1,ht2,ht3,treeOf_post h3]
 ·intro V part g1 g2
  have hV:=matchT_good _ t _ V h3 h4 GV.zero g1
  have hl:=fillT_len V hV _ _ g2
  rw [←s2] at g2
  obtain ⟨t',g3,g4⟩:=fillT_good V hV _ _ s1 g2
  subst g4
  have:=t'.size_pos
  refine ⟨by rw [t'.post_length];omega,by omega,katV_swap h3 g3 (by rw [←h1];exact hv)⟩
end Go.Proofs.YtfnnhimopokpnaaGreatDoor
