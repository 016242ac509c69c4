/- Lemmas for this seat; no condition. -/
import Derived.Test.YtfnnhimopokpnaaGreatDoorHAAS
import Derived.Deep.AppendLies
namespace Go.Proofs.YtfnnhimopokpnaaGreatDoor
open Go.RowKit
set_option maxRecDepth 100000
set_option maxHeartbeats 0
set_option linter.unusedVariables false
section
theorem move_any (α:Nat) (c:Int) (w:World) (hα:α<4) (h1:16≤c) (h2:c≤18):Calls Tryz.prog 181 #[.int .i64 α,.int .i64 c] w fun e w'=>e=.returned (.int .i64 (3*(α:Int)+c-16))∧w=w':=by
 go_enter Tryz.func181,Tryz.ntmps181
 go_wp2
 go_ret
 exact ⟨rfl,rfl⟩
noncomputable def cellL (L:List (List Int)) (t:KT) (m n k:Nat):Nat:=if k<m then bitsN L.length (fun j=>L.getD j []∈moveP t k) else if k=m then bitsN L.length (fun j=>L.getD j []∈(moveP t m).take n) else 0
noncomputable def partL (L:List (List Int)) (t:KT) (m n:Nat):List Int:=(List.range 12).map fun k=>((cellL L t m n k:Nat):Int)
theorem partL_len (L:List (List Int)) (t:KT) (m n:Nat):(partL L t m n).length=12:=by simp [partL]
theorem partL_get (L:List (List Int)) (t:KT) (m n k:Nat) (h:k<(partL L t m n).length):(partL L t m n)[k]=((cellL L t m n k:Nat):Int):=by simp [partL]
theorem bitsN_none (n:Nat) (p:Nat→Prop) (h:∀ k,k<n→¬p k):bitsN n p=0:=(bitsN_eq (by exact Nat.two_pow_pos n) fun k hk=>by simp [h k hk]).symm
theorem partL_start (L:List (List Int)) (t:KT):partL L t 0 0=List.replicate 12 0:=by
 refine List.ext_getElem (by simp [partL]) fun k h1 h2=>?_
 rw [partL_get,List.getElem_replicate]
 unfold cellL
 rw [if_neg (by omega)]
 split
 ·rw [bitsN_none _ _ fun k _=>by simp];rfl
 ·rfl
theorem partL_row (L:List (List Int)) (t:KT) (m n:Nat) (h:(moveP t m).length≤n):partL L t m n=partL L t (m+1) 0:=by
 refine List.ext_getElem (by simp [partL]) fun k h1 h2=>?_
 rw [partL_get,partL_get]
 unfold cellL
 by_cases hk:k<m
 ·rw [if_pos hk,if_pos (by omega)]
 ·rw [if_neg hk]
  by_cases hm:k=m
  ·subst hm
   rw [if_pos rfl,if_pos (by omega),List.take_of_length_le h]
  ·rw [if_neg hm,if_neg (by omega)]
   split
   ·rw [bitsN_none _ _ fun k _=>by simp]
   ·rfl
theorem partL_done (L:List (List Int)) (x:List Int):partL L (treeOf x) 12 0=nextL L x:=by
 refine List.ext_getElem (by simp [partL,nextL]) fun k h1 h2=>?_
 rw [partL_get]
 simp only [partL_len] at h1
 unfold cellL nextL
 rw [if_pos h1]
 simp [setL]
theorem idxP_at_nodup {L:List (List Int)} (hn:L.Nodup) {i:Nat} (hi:i<L.length):idxP (eqL L[i]) L=(i:Nat):=by
 refine idxP_at _ _ i hi (eqL_same _) fun n hn' h=>?_
 rw [eqL_iff,decide_eq_false_iff_not]
 exact fun e=>List.pairwise_iff_getElem.1 hn n i h hi hn' e.symm
theorem partL_next {L:List (List Int)} (hd:L.Nodup) {t:KT} {m n i:Nat} (hm:m<12) (hn:n<(moveP t m).length) (hi:i<L.length) (he:L[i]=(moveP t m)[n]) :
  partL L t m (n+1)=(partL L t m n).set m ((cellL L t m n m ||| 2 ^ i:Nat):Int):=by
 refine List.ext_getElem (by simp [partL]) fun k h1 h2=>?_
 rw [List.getElem_set,partL_get,partL_get]
 by_cases hk:m=k
 ·subst hk
  rw [if_pos rfl]
  unfold cellL
  rw [if_neg (by omega),if_pos rfl,if_neg (by omega),if_pos rfl]
  congr 1
  refine (bitsN_eq ?_ fun k hk=>?_).symm
  ·exact Nat.or_lt_two_pow (bitsN_lt _ _) (Nat.pow_lt_pow_right (by omega) hi)
  ·rw [Nat.testBit_or,Bool.or_eq_true,bitsN_bit,Nat.testBit_two_pow,decide_eq_true_eq,List.take_succ_eq_append_getElem hn,List.mem_append,List.mem_singleton,←he]
   rw [show L.getD k []=L[k] by simp [List.getD,List.getElem?_eq_getElem hk]]
   constructor
   ·rintro (⟨_,h⟩|h)
    ·exact .inl h
    ·subst h;exact .inr rfl
   ·rintro (h|h)
    ·exact .inl ⟨hk,h⟩
    ·right
     by_cases e:i=k
     ·exact e
     ·rcases Nat.lt_or_gt_of_ne e with e|e
      ·exact absurd h.symm (List.pairwise_iff_getElem.1 hd i k hi hk e)
      ·exact absurd h (List.pairwise_iff_getElem.1 hd k i hk hi e)
 ·rw [if_neg hk]
  unfold cellL
  by_cases h:k<m
  ·rw [if_pos h,if_pos h]
  ·rw [if_neg h,if_neg h,if_neg (Ne.symm hk),if_neg (Ne.symm hk)]
theorem cellL_lt (L:List (List Int)) (t:KT) (m n k:Nat):cellL L t m n k<2 ^ L.length:=by
 unfold cellL
 split
 ·exact bitsN_lt _ _
 ·split
  ·exact bitsN_lt _ _
  ·exact Nat.two_pow_pos _
section
variable {P:Program} {w:World}
theorem step_app_at {ops:Array Oper} {o:Oper} {a:Act} {K:Act→World→Prop} {Q:Exit→Act→World→Prop} {E:Prop} (hgd:o.guard=none) (s x:Operand) (t:TypeId)
  (ho:o.op=.call { callee:=.builtin .append,args:=#[s,x],argTypes:=#[t,t] })
  (e:TypeId) (z:Value) (sz bytes:Nat) (ht:P.underlying t=some (.slice e)) (hinfo:(P.info? e).map (fun i=>(i.zero,i.size,i.bytes))=some (some z,sz,bytes))
  (hzs:z.cells.size=sz) (hsz:0<sz) (hby:bytes≤64)
  {lo hi lo' hi' n:Nat} {v:Value} {xs:List Value} (hs:a.eval s=v) (hown:Own sz lo hi e w v n xs)
  {ad:Addr} {m c:Nat} {ys:List Value} (hx:a.eval x=.slice (some ad) m c) (hsl:Sl sz lo' hi' w (.slice (some ad) m c) m ys) (h1:∀ u∈ys,u.oneCell'=true) (hm:0<m)
  (hn:n+m≤1073741824) (hlo:lo≤w.heap.size)
  (h:∀ v' w',Own sz lo w'.heap.size e w' v' (n+m) (xs++ys)→w.grownBy w' v.ownBlock→(v'.ownBlock=v.ownBlock∨v'.ownBlock=some w.heap.size)→K (a.put o.dst v') w') :
  if Region.wanted o (yielded ops a.tmps)=true then Oper.wp P o a w K Q else E:=by
 obtain ⟨i,hi0,hz,hsize,hb⟩:=info_parts hinfo
 obtain ⟨ao,c',e',hmc,hcm,hlen,hnone,hc⟩:=hsl
 injection e' with e1 e2 e3
 subst e1 e3
 have hmx:(n+m)*bytes≤140737488355328:=Nat.le_trans (Nat.mul_le_mul hn hby) (by decide)
 refine step_append_lies (w:=w) hgd s x t ho lo e i z sz bytes ht hi0 hz hsize hb hzs hsz v n xs hs hown.1 ad m c ys hx hlen ?_ h1 hm (by unfold maxLen;omega) hmx hlo w.heap.size rfl ?_
 ·intro j u hu
  have hj:=(List.getElem?_eq_some_iff.1 hu).1
  obtain ⟨b,off,e1,_,_,_,e2⟩:=hc j hj
  injection e1 with e1
  subst e1
  rw [Addr.add_lit,e2,hu]
 ·intro g cap w' h2 h3 h4 h5
  refine h _ w' (Own.of_row h2) h3 ?_
  rcases h4 with h4|h4
  ·exact .inl h4.symm
  ·exact .inr (by rw [h4];rfl)
end
theorem own_ne {sz sz' lo lo' hi hi' e e' n n':Nat} {w:World} {v v':Value} {xs xs':List Value} (h:Own sz lo hi e w v n xs) (h':Own sz' lo' hi' e' w v' n' xs') (hne:e≠e'):v.ownBlock=none∨v.ownBlock≠v'.ownBlock:=by
 cases hub:v.ownBlock with
 | none=>exact .inl rfl
 | some k=>
  right
  intro eq
  rcases h.1.2 with ⟨rfl,_⟩|⟨g,cap,cur,rfl,_,hg,_⟩
  ·cases hub
  ·rcases h'.1.2 with ⟨rfl,_⟩|⟨gO,capO,curO,rfl,_,hgO,_⟩
   ·cases eq
   ·simp only [Value.ownBlock,Option.some.injEq] at hub eq
    rw [hub,eq,hgO] at hg
    injection hg with hg
    injection hg with _ h2 _
    exact hne h2.symm
theorem Own.keep {sz lo hi e n:Nat} {w w':World} {v v':Value} {xs:List Value} (h:Own sz lo hi e w v n xs) (hg:w.grownBy w' v'.ownBlock) (hne:v.ownBlock=none∨v.ownBlock≠v'.ownBlock):Own sz lo hi e w' v n xs:=⟨h.1.kept hg hne,h.2⟩
theorem Own.of_blk {sz e g n:Nat} {w:World} {cs:List Value} (h:Blk g (.cells cs.toArray e (0,0)) w) (hl:cs.length=n*sz) (hn:n≤1048576):Own sz g (g+1) e w (.slice (some ⟨g,0,none⟩) n n) n cs:=
 ⟨⟨hl,.inr ⟨g,n,cs.toArray,rfl,le_ _,h,le_ _,by unfold maxLen;omega,by simpa using hl,by simp [←hl]⟩⟩,fun k hk=>by simp [Value.ownBlock] at hk;omega⟩
structure AUI (g:Nat) (w3 wr:World) (L:List (List Int)) (k:Nat) (va vb:Value) (ss:List Value):Prop where
 blk:Blk g (.cells #[va,vb] 123) wr
 ends:OwnI w3.heap.size wr.heap.size 3 wr va ((L.take k).map endL)
 next:LLs w3.heap.size wr.heap.size wr vb ss ((L.take k).map (nextL L))
 far:∀ u∈ss,u.ownBlock=none∨u.ownBlock≠va.ownBlock
 out:Outside g (g+1) w3 wr
structure AUH (g:Nat) (w3 wr:World) (L:List (List Int)) (k:Nat) (va vb:Value) (ss:List Value) (row:Value) (x:List Int):Prop where
 blk:Blk g (.cells #[va,vb] 123) wr
 ends:OwnI w3.heap.size wr.heap.size 3 wr va ((L.take k).map endL++[endL x])
 next:LLs w3.heap.size wr.heap.size wr vb ss ((L.take k).map (nextL L))
 far:∀ u∈ss,u.ownBlock=none∨u.ownBlock≠va.ownBlock
 hrow:OwnI w3.heap.size wr.heap.size 3 wr row (nextL L x)
 rfar:row.ownBlock=none∨row.ownBlock≠va.ownBlock
 out:Outside g (g+1) w3 wr
theorem AUI.go {g k:Nat} {w3 wr wx:World} {L:List (List Int)} {va vb:Value} {ss:List Value} (h:AUI g w3 wr L k va vb ss) (hb:Below wr.heap.size wr wx):AUI g w3 wx L k va vb ss:=
 ⟨h.blk.below hb h.blk.lt,(h.ends.below hb (le_ _)).lower (le_ _) hb.size,(h.next.below hb (le_ _)).lower (le_ _) hb.size,h.far,h.out.trans (Outside.of_below hb (le_ _))⟩
theorem AUI.endsPut {g k:Nat} {w3 w7 w9:World} {L:List (List Int)} {va vb v9 row:Value} {ss:List Value} {x:List Int} (h:AUI g w3 w7 L k va vb ss) (hg:g+1≤w3.heap.size) (hk:k≤L.length)
  (hro:OwnI w3.heap.size w7.heap.size 3 w7 row (nextL L x)) (hrf:row.ownBlock=none∨row.ownBlock≠va.ownBlock)
  (ho:Own 1 w3.heap.size w9.heap.size 3 w9 v9 (k+1) (ints ((L.take k).map endL)++[.int .i64 (endL x)])) (hgr:(w7.alloc (.cells #[.int .i64 (endL x)] 3)).grownBy w9 va.ownBlock)
  (hl:v9.ownBlock=va.ownBlock∨v9.ownBlock=some (w7.alloc (.cells #[.int .i64 (endL x)] 3)).heap.size):AUH g w3 (w9.setCell ⟨g,0,none⟩ v9) L k v9 vb ss row x:=by
 have ha:=al_below w7 (.cells #[.int .i64 (endL x)] 3)
 have hz:(w7.alloc (.cells #[.int .i64 (endL x)] 3)).heap.size=w7.heap.size+1:=alloc_size _ _
 have hz9:=hgr.size
 have hO:=Outside.put g 0 w9 v9
 have hzO:=hO.size
 have h1:=h.go ha
 have hsz3:=h.out.size
 have hgo:=grown_outside hgr h1.ends.lt
 have hr1:=hro.below ha (le_ _)
 refine ⟨?_,?_,⟨?_,h.next.2.1,fun i p1 p2=>?_⟩,fun u hu=>?_,?_,?_,?_⟩
 ·exact (h1.blk.outside hgo (by omega)).put 0 v9
 ·have:=(show Own 1 w3.heap.size w9.heap.size 3 w9 v9 (k+1) (ints ((L.take k).map endL++[endL x])) by rw [ints_append];exact ho)
  exact (OwnI.len this (by simp;omega)).outside hO (.inr hg) |>.lower (le_ _) hzO
 ·exact (((h1.next.1.keep hgr (own_ne h1.next.1 h1.ends (by decide))).outside hO (.inr hg))).wide2 (le_ _) (by omega)
 ·exact (((h1.next.2.2 i p1 p2).keep hgr (h.far _ (List.getElem_mem p1))).outside hO (.inr hg)).wide2 (le_ _) (by omega)
 ·rcases hl with e|e
  ·rw [e];exact h.far u hu
  ·obtain ⟨i,hi,rfl⟩:=List.getElem_of_mem hu
   rw [e]
   cases hb:ss[i].ownBlock with
   | none=>exact .inl rfl
   | some j=>
    right
    have:=(h.next.2.2 i hi (by rw [←h.next.2.1];exact hi)).2 j hb
    simp
    omega
 ·exact ((hr1.keep hgr hrf).outside hO (.inr hg)).wide2 (le_ _) (by omega)
 ·rcases hl with e|e
  ·rw [e];exact hrf
  ·rw [e]
   cases hb:row.ownBlock with
   | none=>exact .inl rfl
   | some j=>
    right
    have:=hro.2 j hb
    simp
    omega
 ·exact (h1.out.fresh hgo (le_ _)).trans hO
theorem AUH.nextPut {g k:Nat} {w3 wx w9:World} {L:List (List Int)} {va vb v9 row:Value} {ss:List Value} (hk:k<L.length) (h:AUH g w3 wx L k va vb ss row L[k]) (hg:g+1≤w3.heap.size)
  (ho:Own 1 w3.heap.size w9.heap.size 22 w9 v9 (ss.length+1) (ss++[row])) (hgr:(wx.alloc (.cells #[row] 22)).grownBy w9 vb.ownBlock):AUI g w3 (w9.setCell ⟨g,1,none⟩ v9) L (k+1) va v9 (ss++[row]):=by
 have ha:=al_below wx (.cells #[row] 22)
 have hz:(wx.alloc (.cells #[row] 22)).heap.size=wx.heap.size+1:=alloc_size _ _
 have hz9:=hgr.size
 have hO:=Outside.put g 1 w9 v9
 have hzO:=hO.size
 have hsz3:=h.out.size
 have hx1:Own 1 w3.heap.size (wx.alloc (.cells #[row] 22)).heap.size 22 (wx.alloc (.cells #[row] 22)) vb ss.length ss:=(h.next.1.below ha (le_ _)).wide2 (le_ _) (by omega)
 have hgo:=grown_outside hgr hx1.lt
 have he:=h.ends.below ha (le_ _)
 have hn:=LLs.lit h.next h.hrow ho hgr
 refine ⟨?_,?_,?_,fun u hu=>?_,?_⟩
 ·exact ((h.blk.below ha h.blk.lt).outside hgo (by omega)).put 1 v9
 ·rw [List.take_succ_eq_append_getElem hk,List.map_append]
  exact ((he.keep hgr (own_ne he hx1 (by decide))).outside hO (.inr hg)).wide2 (le_ _) (by omega)
 ·rw [List.take_succ_eq_append_getElem hk,List.map_append]
  exact (hn.1.outside hO (.inr hg)).lower (le_ _) hzO
 ·rcases List.mem_append.1 hu with hu|hu
  ·exact h.far u hu
  ·simp only [List.mem_singleton] at hu
   subst hu
   exact h.rfar
 ·exact ((h.out.trans (Outside.of_below ha (le_ _))).fresh hgo (le_ _)).trans hO
theorem AUI.endsK {g k:Nat} {w3 wr:World} {L:List (List Int)} {va vb:Value} {ss:List Value} (h:AUI g w3 wr L k va vb ss) (hk:k≤L.length):Own 1 w3.heap.size wr.heap.size 3 wr va k (ints ((L.take k).map endL)):=by
 have h1:=h.ends
 unfold OwnI at h1
 rwa [show ((L.take k).map endL).length=k by simp;omega] at h1
theorem AUI.blk9 {g k:Nat} {w3 w7 w9:World} {L:List (List Int)} {va vb:Value} {ss:List Value} {o:Obj} (h:AUI g w3 w7 L k va vb ss) (hg:g+1≤w3.heap.size) (hgr:(w7.alloc o).grownBy w9 va.ownBlock):Blk g (.cells #[va,vb] 123) w9:=
 (h.go (al_below w7 o)).blk.outside (grown_outside hgr (h.go (al_below w7 o)).ends.lt) (by omega)
theorem AUH.blk9 {g k:Nat} {w3 w7 w9:World} {L:List (List Int)} {va vb row:Value} {x:List Int} {ss:List Value} {o:Obj} (h:AUH g w3 w7 L k va vb ss row x) (hg:g+1≤w3.heap.size) (hgr:(w7.alloc o).grownBy w9 vb.ownBlock):Blk g (.cells #[va,vb] 123) w9:=
 (h.blk.below (al_below w7 o) h.blk.lt).outside (grown_outside hgr ((h.next.1.below (al_below w7 o) (le_ _)).wide2 (le_ _) (al_below w7 o).size).lt) (by omega)
def AuW (lo hi:Nat) (w:World) (v:Value) (a:Au):Prop:=∃ va vb ss,v=.agg #[va,vb]∧OwnI lo hi 3 w va a.ends∧LLs lo hi w vb ss a.next
theorem AuW.nils (B hi:Nat) (w:World):AuW B hi w (.agg #[.slice none 0 0,.slice none 0 0]) ⟨[],[]⟩:=⟨_,_,[],rfl,Own.nil _ _ _ _ _,LLs.nil _ _ _⟩
theorem Blk.au2 {g:Nat} {e:TypeId} {w:World} {x0 x1:Value} (h:Blk g (.cells #[x0,x1] e (0,0)) w) (a b:Value):Blk g (.cells #[a,b] e (0,0)) ((w.setCell ⟨g,0,none⟩ a).setCell ⟨g,1,none⟩ b):=(h.put 0 a).put 1 b
theorem Outside.set2' (g:Nat) (w:World) (a b:Value):Outside g (g+1) w ((w.setCell ⟨g,0,none⟩ a).setCell ⟨g,1,none⟩ b):=
 ((Outside.refl _ _ _).setCell (p:=⟨g,0,none⟩) (le_ _) (Nat.lt_succ_self _) _).setCell (p:=⟨g,1,none⟩) (le_ _) (Nat.lt_succ_self _) _
theorem zeros12:madeCells (Value.int .i64 0).cells (12*1)=#[.int .i64 0,.int .i64 0,.int .i64 0,.int .i64 0,.int .i64 0,.int .i64 0,.int .i64 0,.int .i64 0,.int .i64 0,.int .i64 0,.int .i64 0,.int .i64 0]:=by kernel_rfl
theorem make12 (w:World):(Instr.makeSlice 22 (.int .i64 12) (.int .i64 12)).run Tryz.prog w=.ok (.slice (some ⟨w.heap.size,0,none⟩) 12 12) (w.alloc (.cells #[.int .i64 0,.int .i64 0,.int .i64 0,.int .i64 0,.int .i64 0,.int .i64 0,.int .i64 0,.int .i64 0,.int .i64 0,.int .i64 0,.int .i64 0,.int .i64 0] 3)):=by
 obtain ⟨i,hi0,hz,hsize,hb⟩:=info_parts info_int
 have h:=run_makeSlice (P:=Tryz.prog) (w:=w) 22 3 i _ Tryz.underlying22 hi0 hz .i64 .i64 12 12 (by decide) (by decide) (by rw [hsize];decide) (by rw [hb];decide) (by decide)
 rw [hsize] at h
 rw [show ((12:Int)).toNat=12 from rfl,zeros12] at h
 exact h
theorem or_two {cv i:Nat} (hc:cv<1024) (hi:i<10):bits .or .i64 (cv:Int) (IntKind.i64.wrap (2 ^ i))=((cv ||| 2 ^ i:Nat):Int):=by
 have h2:2 ^ i<2 ^ 10:=Nat.pow_lt_pow_right (by omega) hi
 have e:IntKind.i64.wrap (2 ^ i)=((2 ^ i:Nat):Int):=by
  have:=wrap_i64_nat (2 ^ i) (by omega)
  rw [←this]
  push_cast
  rfl
 rw [e,bits64_or _ _ (by omega) (by omega)]
theorem row_set {L:List (List Int)} {t:KT} {m n g:Nat} {x:Int} {w:World} (h:Blk g (.cells (ints (partL L t m n)).toArray 3 (0,0)) w) (e:partL L t m (n+1)=(partL L t m n).set m x) :
  Blk g (.cells (ints (partL L t m (n+1))).toArray 3 (0,0)) (w.setCell ⟨g,m,none⟩ (.int .i64 x)):=by
 have:=h.put m (.int .i64 x)
 rw [e]
 rw [show (ints ((partL L t m n).set m x)).toArray=(ints (partL L t m n)).toArray.setIfInBounds m (.int .i64 x) by simp [ints,List.map_set]]
 exact this
theorem autoOf_any (lo hi:Nat) (v:Value) (e:List Int) (w:World) (hx:SlI lo hi w v e) (hh:hi≤w.heap.size) (hm:e.length≤1048576) :
  Calls Tryz.prog 180 #[v] w (RetV fun v' w'=>AuW w.heap.size w'.heap.size w' v' (autV e)∧Below w.heap.size w w'):=by
 obtain ⟨w0,hw0⟩:∃ w0,w0=w.alloc (.cells #[.slice none 0 0,.slice none 0 0] 123):=⟨_,rfl⟩
 have HB:Hid (Below w.heap.size w w0):=by rw [hw0];exact H_ ((B_ _ _).alloc (le_ _) _)
 have K1:Hid (Blk w.heap.size (.cells #[.slice none 0 0,.slice none 0 0] 123) w0):=by rw [hw0];exact H_ (Blk.new w _)
 have hsz:w0.heap.size=w.heap.size+1:=by rw [hw0];simp
 have hz1:w.heap.size+1≤w0.heap.size:=by omega
 have hz2:w0.heap.size≤w.heap.size+1:=by omega
 have HX:=H_ (hx.below HB.out hh)
 obtain ⟨a,cap,rfl,hcap,hcm⟩:=Sl.shape hx
 clear hx hsz
 cases hv:katV e
 ·have HE:=H_ (show autV e=⟨[],[]⟩ by unfold autV;rw [hv];rfl)
  go_enter Tryz.func180,Tryz.ntmps180
  go_wp2_with fail
  simp only [←hw0]
  clear hw0
  refine (impl_KatValid _ _ _ e _ HX.out hm).mono ?_
  rintro e_ w1 ⟨rfl,rfl⟩
  have c0:=K1.out.cell 0
  have c1:=K1.out.cell 1
  have f0:=K1.out.free 0
  have f1:=K1.out.free 1
  rw [hv]
  go_wp2
  obtain ⟨wz,hwz⟩:∃ wz,wz=(w0.setCell ⟨w.heap.size,0,none⟩ (.slice none 0 0)).setCell ⟨w.heap.size,1,none⟩ (.slice none 0 0):=⟨_,rfl⟩
  have KZ:=K1.out.au2 (.slice none 0 0) (.slice none 0 0)
  have HO:=Outside.set2' w.heap.size w0 (.slice none 0 0) (.slice none 0 0)
  rw [←hwz] at KZ HO
  simp only [←hwz]
  have q0:=KZ.cell 0
  have q1:=KZ.cell 1
  refine bodyPost_ret (v:=.agg #[.slice none 0 0,.slice none 0 0]) (by simp [results,Tryz.results180,go_sem,q0,q1]) rfl (RetV.mk _ rfl ⟨?_,Below.outside HB.out HO (le_ _) HB.out.size⟩)
  rw [HE.out]
  exact AuW.nils _ _ _
 ·obtain ⟨t0,ht0,hp0,hr0,hs0⟩:=katV_tree hv
  subst hp0
  have HAR:=H_ (allV_all ht0 hs0)
  have HT0:=H_ ht0
  go_enter Tryz.func180,Tryz.ntmps180
  go_wp2_with fail
  simp only [←hw0]
  clear hw0
  refine (impl_KatValid _ _ _ t0.post _ HX.out hm).mono ?_
  rintro e_ w1 ⟨rfl,rfl⟩
  rw [hv]
  go_wp2_with fail
  refine (allParts_any _ _ _ t0 w0 HX.out (by omega) HT0.out hs0).mono ?_
  rintro e2 w2 ⟨v2,rfl,⟨sl,hl2⟩,hb2⟩
  have hz2':=hb2.size
  obtain ⟨la,lc,rfl⟩:=Own.shape hl2.1
  have hsl:sl.length≤41:=by rw [hl2.2.1];exact HAR.out.len
  have HSL:=H_ hl2.2.1
  have HL:=H_ hl2
  have HB2:=H_ (HB.out.trans (hb2.mono (by omega)))
  have K2:=H_ (K1.out.below hb2 (by omega))
  have HKV:=H_ hv
  obtain ⟨L,hL⟩:∃ L,L=allV t0.post:=⟨_,rfl⟩
  rw [←hL] at HL HAR HSL
  have HLE:=H_ hL
  clear hl2 hb2 hr0 hv hL
  by_cases h10:sl.length≤10
  ·have hd10:decide ((10:Int)<(sl.length:Int))=false:=by simp;omega
   obtain ⟨w3,hw3⟩:∃ w3,w3=w2.alloc (.cells #[.slice none 0 0,.slice none 0 0] 123):=⟨_,rfl⟩
   have hz3:w3.heap.size=w2.heap.size+1:=by rw [hw3];simp
   have HB3:Hid (Below w2.heap.size w2 w3):=by rw [hw3];exact H_ (al_below _ _)
   have HI:Hid (AUI w2.heap.size w3 w3 L 0 (.slice none 0 0) (.slice none 0 0) []):=by
    refine H_ ⟨?_,Own.nil _ _ _ _ _,LLs.nil _ _ _,fun u hu=>by simp at hu,Outside.refl _ _ _⟩
    rw [hw3];exact Blk.new w2 _
   have hz3a:w2.heap.size+1≤w3.heap.size:=by omega
   have hz3b:w3.heap.size≤w2.heap.size+1:=by omega
   clear hz3
   go_wp2_with fail
   simp only [←hw3]
   clear hw3
   go_loopw [25] (fun i wr=>∃ (k:Nat) (va vb:Value) (ss:List Value),k≤sl.length∧i=.int .i64 k∧Hid (AUI w2.heap.size w3 wr L k va vb ss)) (fun i _=>sl.length-(intOf i).toNat)
   case atStart=>exact ⟨0,_,_,_,by omega,rfl,HI⟩
   case round=>
    rename World=>wk
    clear HI
    obtain ⟨k,va,vb,ss,hk,rfl,HI⟩:=hrel
    have hzk:=HI.out.out.size
    have HBk:=H_ (Below.outside HB3.out HI.out.out (le_ _) (by omega))
    by_cases hlt:k<sl.length
    ·have hkL:k<L.length:=by rw [←HSL.out];exact hlt
     obtain ⟨g6,rfl,_,_,hg6,hc6,hu6⟩:=(HL.out.below HBk.out (le_ _)).at k hlt hkL
     have HU6:=H_ hu6
     obtain ⟨pa6,pc6,hs6⟩:=Own.shape hu6
     rw [hs6] at hc6 HU6
     clear hs6 hu6
     go_wp2_with fail
     obtain ⟨t,ht⟩:∃ t,t=treeOf L[k]:=⟨_,rfl⟩
     have HTR:=H_ (show Cl t0 t∧t.post=L[k] from by
      obtain ⟨q,h1,h2⟩:=HAR.out.cl.mem _ (List.getElem_mem hkL)
      rw [ht,←h2,treeOf_post ((Cl.kept HT0.out).ok h1)]
      exact ⟨h1,rfl⟩)
     have HTS:=H_ (Cl.size HTR.out.1 hs0)
     have HTO:=H_ ((Cl.kept HT0.out).ok HTR.out.1)
     have HT:=H_ ht
     clear ht
     refine (implBuildL _ L[k] t wk (SlI.rd HU6.out.sl (by omega)) (by rw [←HTR.out.2,t.post_length];have:=HTS.out;omega) (by rw [←HTR.out.2];exact runK_post 0 t HTO.out [])).mono ?_
     rintro e4 w4 ⟨p4,rfl,hb4,hrt4⟩
     have hz4:=hb4.size
     obtain ⟨pp4,rfl⟩:=hrt4.isPtr
     have HB4:=H_ hb4
     have HRT:=H_ hrt4
     obtain ⟨w5,hw5⟩:∃ w5,w5=w4.alloc (.cells #[.int .i64 0,.int .i64 0,.int .i64 0,.int .i64 0,.int .i64 0,.int .i64 0,.int .i64 0,.int .i64 0,.int .i64 0,.int .i64 0,.int .i64 0,.int .i64 0] 3):=⟨_,rfl⟩
     have hz5:w5.heap.size=w4.heap.size+1:=by rw [hw5];simp
     have HR5:Hid (Blk w4.heap.size (.cells (ints (partL L t 0 0)).toArray 3 (0,0)) w5∧Below w4.heap.size w4 w5):=H_ ⟨by rw [partL_start,hw5];exact Blk.new w4 _,by rw [hw5];exact al_below _ _⟩
     have hz5a:w4.heap.size+1≤w5.heap.size:=by omega
     have hz5b:w5.heap.size≤w4.heap.size+1:=by omega
     have hmk:=make12 w4
     rw [←hw5] at hmk
     clear hb4 hrt4 hz5 hw5
     go_wp2
     go_loopw [32] (fun i wx=>∃ α:Nat,α≤4∧i=.int .i64 α∧Hid (Blk w4.heap.size (.cells (ints (partL L t (3*α) 0)).toArray 3 (0,0)) wx∧Below w4.heap.size w4 wx)) (fun i _=>4-(intOf i).toNat)
     case atStart=>exact ⟨0,by omega,rfl,HR5⟩
     case round=>
      rename World=>wx
      clear HR5 hmk
      obtain ⟨α,hα,rfl,HX⟩:=hrel
      by_cases hlt2:α<4
      ·have hd2:decide ((α:Int)<4)=true:=by simp;omega
       go_wp2
       go_loopw [10] (fun i wy=>∃ j:Nat,j≤3∧i=.int .i64 (16+(j:Int))∧Hid (Blk w4.heap.size (.cells (ints (partL L t (3*α+j) 0)).toArray 3 (0,0)) wy∧Below w4.heap.size w4 wy)) (fun i _=>19-(intOf i).toNat)
       case atStart=>exact ⟨0,by omega,rfl,HX⟩
       case round=>
        rename World=>wy
        clear HX
        obtain ⟨j,hj,rfl,HX⟩:=hrel
        by_cases hlt3:j<3
        ·have hd3:decide ((16:Int)+(j:Int)≤18)=true:=by simp;omega
         obtain ⟨m,hm⟩:∃ m,m=3*α+j:=⟨_,rfl⟩
         have hm12:m<12:=by omega
         rw [←hm] at HX
         have HM:=H_ hm
         have HMP:=H_ (show moveP t m=partsV t α (16+(j:Int)) by
          subst hm
          unfold moveP
          rw [show (3*α+j)/3=α by omega,show (3*α+j)%3=j by omega])
         have HMD:Hid (∀ x∈partsV t α (16+(j:Int)),x∈L∧x.length≤100000):=H_ fun x hx=>by
          rw [←HMP.out,HT.out] at hx
          have hxL:=HAR.out.done _ (List.getElem_mem hkL) m hm12 x hx
          obtain ⟨q,hq1,hq2⟩:=HAR.out.cl.mem _ hxL
          refine ⟨hxL,?_⟩
          rw [←hq2,q.post_length]
          have:=Cl.size hq1 hs0
          omega
         have hzy:=HX.out.2.size
         clear hm
         go_wp2_with fail
         refine (parts_any t _ _ wy α (16+(j:Int)) (RT.below HRT.out HX.out.2) HTO.out (by have:=HTS.out;omega) hlt2 (by omega) (by omega) (fun x hx=>(HMD.out x hx).2)).mono ?_
         rintro e6 w6 ⟨v6,rfl,⟨sp,h6_⟩,hb6_⟩
         have hz6:=hb6_.size
         have hpn:=partsV_len HTO.out (α:=α) (c:=16+(j:Int)) (by omega)
         have hts:=HTS.out
         obtain ⟨ps,hps⟩:∃ x,x=partsV t α (16+(j:Int)):=⟨_,rfl⟩
         rw [←hps] at h6_ HMP hpn HMD
         clear hps
         have hsl6:=h6_.2.1
         have hsl62:sp.length≤100000:=by omega
         have HSL6:=H_ hsl6
         obtain ⟨pva,pvc,rfl⟩:=Own.shape h6_.1
         have HZ:Hid (Blk w4.heap.size (.cells (ints (partL L t m 0)).toArray 3 (0,0)) w6∧Below w4.heap.size w4 w6∧LLs wy.heap.size w6.heap.size w6 (.slice pva sp.length pvc) sp ps):=H_ ⟨HX.out.1.below hb6_ HX.out.1.lt,HX.out.2.trans (hb6_.mono hzy),h6_⟩
         have hgy:=HX.out.1.lt
         clear h6_ hb6_ hsl6 hpn HX
         go_wp2
         go_loopw [44] (fun i wz=>∃ n:Nat,n≤sp.length∧i=.int .i64 n∧Hid (Blk w4.heap.size (.cells (ints (partL L t m n)).toArray 3 (0,0)) wz∧Below w4.heap.size w4 wz∧LLs wy.heap.size w6.heap.size wz (.slice pva sp.length pvc) sp ps∧w6.heap.size≤wz.heap.size)) (fun i _=>sp.length-(intOf i).toNat)
         case atStart=>exact ⟨0,by omega,rfl,H_ ⟨HZ.out.1,HZ.out.2.1,HZ.out.2.2,le_ _⟩⟩
         case round=>
          rename World=>wz
          clear HZ
          obtain ⟨n,hn,rfl,HZ⟩:=hrel
          by_cases hlt4:n<sp.length
          ·have hnp:n<ps.length:=by rw [←HSL6.out];exact hlt4
           have hzz:=HZ.out.2.2.2
           obtain ⟨g7,rfl,_,_,hg7,hc7,hu7⟩:=HZ.out.2.2.1.at n hlt4 hnp
           have HU7:=H_ hu7
           obtain ⟨pa7,pc7,hs7⟩:=Own.shape hu7
           rw [hs7] at hc7 HU7
           clear hs7 hu7
           obtain ⟨i,hi,hie⟩:=List.getElem_of_mem (HMD.out _ (List.getElem_mem hnp)).1
           have hi10:i<10:=by have:=HSL.out;omega
           have HLZ:=H_ (HL.out.below ((HBk.out.trans (HB4.out.mono (by omega))).trans (HZ.out.2.1.mono (by omega))) (le_ _))
           have HIX:=H_ ((show idxP (eqL ps[n]) L=(i:Nat) by rw [←hie];exact idxP_at_nodup HAR.out.cl.nodup hi))
           have HNX:=H_ (partL_next HAR.out.cl.nodup (t:=t) (m:=m) (n:=n) hm12 (by rw [HMP.out];exact hnp) hi (by simp only [HMP.out];exact hie))
           have HCL:=H_ (cellL_lt L t m n m)
           have HPG:=H_ (partL_get L t m n m (by rw [partL_len];exact hm12))
           obtain ⟨cv,hcv⟩:∃ cv,cv=cellL L t m n m:=⟨_,rfl⟩
           rw [←hcv] at HNX HCL HPG
           clear hcv hie
           have hcv:cv<1024:=Nat.lt_of_lt_of_le HCL.out (show 2 ^ L.length≤2 ^ 10 from Nat.pow_le_pow_right (by omega) (by have:=HSL.out;omega))
           have HMV:Hid (Calls Tryz.prog 181 #[.int .i64 α,.int .i64 (16+(j:Int))] wz.drew fun e w'=>e=.returned (.int .i64 (m:Nat))∧wz.drew=w'):=H_ ((move_any α (16+(j:Int)) wz.drew hlt2 (by omega) (by omega)).mono (by
            rintro e w' ⟨rfl,h⟩
            refine ⟨?_,h⟩
            have hm:=HM.out
            rw [show 3*(α:Int)+(16+(j:Int))-16=(m:Nat) by omega]))
           have HPA:Hid (Calls Tryz.prog 210 #[.slice (some ⟨g6,0,none⟩) sl.length lc,.slice pa7 ps[n].length pc7] wz.drew fun e w'=>e=.returned (.int .i64 (i:Nat))∧Below wz.heap.size wz w'):=H_ ((partAt_any _ _ _ _ _ _ L ps[n] wz.drew (HLZ.out.below (Below.drew (B_ wz.heap.size wz)) (by have:=HLZ.out.1;omega)).sl (HU7.out.sl.below (Below.drew (B_ wz.heap.size wz)) (by omega)) (by show _≤wz.heap.size;omega) (by show _≤wz.heap.size;omega) (by have:=HSL.out;omega)).mono (by
            rintro e w' ⟨rfl,h⟩
            exact ⟨by rw [HIX.out],(Below.drew (B_ _ _)).trans h⟩))
           have HCV:Hid (∀ w':World,Blk w4.heap.size (.cells (ints (partL L t m n)).toArray 3 (0,0)) w'→w'.cell? ⟨w4.heap.size,m,none⟩=some (.int .i64 (cv:Nat))):=H_ fun w' h'=>by
            rw [h'.cell m]
            have h:=HPG.out
            simp [ints,List.getElem?_eq_getElem (show m<(partL L t m n).length by rw [partL_len];exact hm12),h]
           have x0:=HCV.out wz HZ.out.1
           have x1:wz.drew.cell? ⟨w4.heap.size,m,none⟩=some (.int .i64 (cv:Nat)):=x0
           have hmi:(i:Int)<10:=by omega
           have hmI:(m:Int)<12:=by omega
           go_wp2_with fail
           go_region_law (first
            | (go_simp;go_at_call 181;refine HMV.out.mono ?_;rintro e1 _ ⟨rfl,rfl⟩)
            | (go_simp;go_at_call 210;refine HPA.out.mono ?_;rintro e8 w8 ⟨rfl,hb8_⟩;(have hz8:=hb8_.size);(have k8:=HZ.out.1.below hb8_ HZ.out.1.lt);(have y0:=HCV.out w8 k8);(have y1:=k8.free m);(have HK8:=H_ (And.intro k8 hb8_));clear k8 hb8_))
           all_goals (
            have HZ9:Hid (Blk w4.heap.size (.cells (ints (partL L t m (n+1))).toArray 3 (0,0)) (w8.setCell ⟨w4.heap.size,m,none⟩ (.int .i64 (bits .or .i64 (cv:Int) (IntKind.i64.wrap (2 ^ i)))))∧Below w4.heap.size w4 (w8.setCell ⟨w4.heap.size,m,none⟩ (.int .i64 (bits .or .i64 (cv:Int) (IntKind.i64.wrap (2 ^ i)))))∧LLs wy.heap.size w6.heap.size (w8.setCell ⟨w4.heap.size,m,none⟩ (.int .i64 (bits .or .i64 (cv:Int) (IntKind.i64.wrap (2 ^ i))))) (.slice (some ⟨g7,0,none⟩) sp.length pvc) sp ps∧w6.heap.size≤(w8.setCell ⟨w4.heap.size,m,none⟩ (.int .i64 (bits .or .i64 (cv:Int) (IntKind.i64.wrap (2 ^ i))))).heap.size):=by
             rw [or_two hcv (by omega)]
             have hO:=Outside.put w4.heap.size m w8 (.int .i64 ((cv ||| 2 ^ i:Nat):Int))
             have h1:=HZ.out.2.2.1.below HK8.out.2 (by omega)
             have hs9:=hO.size
             exact H_ ⟨row_set HK8.out.1 HNX.out,Below.outside (HZ.out.2.1.trans (HK8.out.2.mono (by omega))) hO (le_ _) (by omega),h1.outside hO (.inr (by omega)),by omega⟩
            generalize w8.setCell ⟨w4.heap.size,m,none⟩ (.int .i64 (bits .or .i64 (cv:Int) (IntKind.i64.wrap (2 ^ i))))=w9 at HZ9 ⊢
            clear x0 x1 y0 y1 HK8
            go_wp2
            go_roundw
            case rel=>exact ⟨n+1,by omega,by go_num,HZ9⟩
            case measure=>simp [intOf];omega)
          ·obtain rfl:n=sp.length:=by omega
           have HF:Hid (Blk w4.heap.size (.cells (ints (partL L t (3*α+(j+1)) 0)).toArray 3 (0,0)) wz∧Below w4.heap.size w4 wz):=H_ (by
            have h1:=HZ.out.1
            rw [partL_row L t m sp.length (by rw [HMP.out,HSL6.out];exact le_ _),show m+1=3*α+(j+1) by have:=HM.out;omega] at h1
            exact ⟨h1,HZ.out.2.1⟩)
           clear HZ HMP HMD HM
           go_wp2
           go_roundw
           case rel=>exact ⟨j+1,by omega,by go_num,HF⟩
           case measure=>simp [intOf];omega
        ·obtain rfl:j=3:=by omega
         have HF:Hid (Blk w4.heap.size (.cells (ints (partL L t (3*(α+1)) 0)).toArray 3 (0,0)) wy∧Below w4.heap.size w4 wy):=HX
         clear HX
         go_wp2
         go_roundw
         case rel=>exact ⟨α+1,by omega,by go_num,HF⟩
         case measure=>simp [intOf];omega
      ·obtain rfl:α=4:=by omega
       have HBX:=H_ (HB4.out.trans (HX.out.2.mono (by omega)))
       have HIX:=H_ (HI.out.go HBX.out)
       have hgx:=HX.out.1.lt
       have hsx:=HX.out.2.size
       have HROW:Hid (OwnI w3.heap.size wx.heap.size 3 wx (.slice (some ⟨w4.heap.size,0,none⟩) 12 12) (nextL L L[k])):=H_ (by
        have h:=HX.out.1
        rw [show 3*4=12 from rfl,HT.out,partL_done] at h
        have h2:=Own.of_blk (sz:=1) (n:=12) h (by simp [ints,nextL]) (by omega)
        exact (OwnI.len h2 (by simp [nextL])).lower (by omega) (by omega))
       have HRF:Hid ((Value.slice (some ⟨w4.heap.size,0,none⟩) 12 12).ownBlock=none∨(Value.slice (some ⟨w4.heap.size,0,none⟩) 12 12).ownBlock≠va.ownBlock):=H_ (.inr fun e=>by
        have:=HI.out.ends.2 w4.heap.size e.symm
        omega)
       have HEN:Hid (∀ w',Below wk.heap.size wk w'→Calls Tryz.prog 149 #[.slice pa6 L[k].length pc6] w' fun e w''=>e=.returned (.int .i64 (endL L[k]))∧Below w'.heap.size w' w''):=H_ fun w' hb'=>(ends_any _ _ _ t w' (by rw [HTR.out.2];exact HU6.out.sl.below hb' (by omega)) (by have:=hb'.size;omega) (by have:=HTS.out;omega) HTO.out).mono (by
        rintro e w'' ⟨rfl,h⟩
        exact ⟨by rw [endL,←HT.out],h⟩)
       have c0:=HIX.out.blk.cell 0
       have c0':=HIX.out.blk.drew.cell 0
       have hkl:k≤L.length:=by omega
       have hk41:k≤41:=by omega
       have hg3:w2.heap.size+1≤w3.heap.size:=hz3a
       have hzx:wx.drew.heap.size=wx.heap.size:=rfl
       clear HX HI
       go_upto_region 24 with fail
       go_region_law (first
        | (go_simp;go_at_call 149;refine (HEN.out wx.drew (Below.drew HBX.out)).mono ?_;rintro e7 w7 ⟨rfl,hb7_⟩;(have hz7:=hb7_.size);(have hb7:Below wx.heap.size wx w7:=(Below.drew (B_ _ _)).trans (hb7_.mono (le_ _)));(have HI7:=H_ (HIX.out.go hb7));(have HR7:=H_ ((HROW.out.below hb7 (le_ _)).lower (le_ _) hb7.size));(have c7:=HI7.out.blk.cell 0);(have c7':=(HI7.out.blk.al (x:=.cells #[.int .i64 (endL L[k])] 3)).cell 0);(have L7:Hid (Sl 1 w7.heap.size (w7.heap.size+1) (w7.alloc (.cells #[.int .i64 (endL L[k])] 3)) (.slice (some ⟨w7.heap.size,0,none⟩) 1 1) 1 [.int .i64 (endL L[k])]):=H_ (Own.lit 1 3 w7 [.int .i64 (endL L[k])] 1 (by omega) rfl).sl);(have HE7:=H_ ((HI7.out.go (al_below w7 (.cells #[.int .i64 (endL L[k])] 3))).endsK hkl));clear hb7_ hb7)
        | (refine step_app_at (by rfl) _ _ 22 (by rfl) 3 (.int .i64 0) 1 8 Tryz.underlying22 info_int (by rfl) (by decide) (by decide) (by rfl) HE7.out (by rfl) L7.out (by intro u hu;simp only [List.mem_singleton] at hu;subst hu;rfl) (by omega) (by omega) (by simp only [alloc_size];omega) ?_;intro v9 w9 ho9 hg9 hl9;obtain ⟨y9,yc9,rfl⟩:=Own.shape ho9;(have k9:=HI7.out.blk9 hg3 hg9);(have c9:=k9.cell 0);(have f9:=k9.free 0);(have HH:=H_ (AUI.endsPut HI7.out hg3 hkl HR7.out HRF.out ho9 hg9 hl9));clear ho9 hg9 hl9 k9))
       all_goals (
        generalize w9.setCell ⟨w2.heap.size,0,none⟩ (.slice y9 (k+1) yc9)=wa at HH ⊢
        have hza:=HH.out.out.size
        have c10:=HH.out.blk.cell 1
        have hss:ss.length≤41:=by have:=HH.out.next.2.1;simp at this;omega
        clear c9 f9 L7 HE7 c7 c7' HI7 HR7
        go_wp2_with (at_builtin;go_loud (refine wpList_app_lit_at wa rfl _ _ 119 rfl 22 (.slice none 0 0) 1 24 Tryz.underlying119 info_ints rfl (by decide) (by decide) rfl HH.out.next.1 1 [.slice (some ⟨w4.heap.size,0,none⟩) 12 12] rfl rfl (by intro u hu;simp only [List.mem_singleton] at hu;subst hu;rfl) rfl ?c1 ?c2 ?_))
        case c1=>omega
        case c2=>exact hza
        intro v12 w12 ho12 hg12 hl12 _
        obtain ⟨y12,yc12,rfl⟩:=Own.shape ho12
        have k12:=HH.out.blk9 hg3 hg12
        have c12:=k12.cell 1
        have f12:=k12.free 1
        have HI13:=H_ (AUH.nextPut hkL HH.out hg3 ho12 hg12)
        clear ho12 hg12 hl12 k12
        go_wp2
        go_roundw
        case rel=>exact ⟨k+1,_,_,_,by omega,by go_num,HI13⟩
        case measure=>simp [intOf];omega)
    ·obtain rfl:k=sl.length:=by omega
     obtain ⟨za,zc,rfl⟩:=Own.shape (HI.out.endsK (by rw [←HSL.out];exact le_ _))
     obtain ⟨zb,zbc,rfl⟩:=Own.shape HI.out.next.1
     have KR:=H_ (K2.out.below HBk.out (by omega))
     have c0:=HI.out.blk.cell 0
     have c1:=HI.out.blk.cell 1
     have d0:=KR.out.cell 0
     have d1:=KR.out.cell 1
     have f0:=KR.out.free 0
     have f1:=KR.out.free 1
     go_wp2
     obtain ⟨wz,hwz⟩:∃ wz,wz=(wk.setCell ⟨w.heap.size,0,none⟩ (.slice za sl.length zc)).setCell ⟨w.heap.size,1,none⟩ (.slice zb ss.length zbc):=⟨_,rfl⟩
     have KZ:=KR.out.au2 (.slice za sl.length zc) (.slice zb ss.length zbc)
     have HO:=Outside.set2' w.heap.size wk (.slice za sl.length zc) (.slice zb ss.length zbc)
     rw [←hwz] at KZ HO
     simp only [←hwz]
     have q0:=KZ.cell 0
     have q1:=KZ.cell 1
     refine bodyPost_ret (v:=.agg #[.slice za sl.length zc,.slice zb ss.length zbc]) (by simp [results,Tryz.results180,go_sem,q0,q1]) rfl (RetV.mk _ rfl ⟨?_,Below.outside (HB2.out.trans (HBk.out.mono (by omega))) HO (le_ _) (by omega)⟩)
     have e1:autV t0.post=⟨L.map endL,L.map (nextL L)⟩:=by
      unfold autV
      rw [HKV.out,←HLE.out,Bool.true_and,if_pos]
      rw [decide_eq_true_eq,←HSL.out]
      exact h10
     have e2:L.take sl.length=L:=by rw [HSL.out,List.take_length]
     have n1:=HI.out.ends
     have n2:=HI.out.next
     rw [e2] at n1 n2
     rw [e1]
     exact ⟨_,_,ss,rfl,(n1.outside HO (.inr (by omega))).lower (by omega) HO.size,(n2.outside HO (.inr (by omega))).lower (by omega) HO.size⟩
  ·have HE:=H_ (show autV t0.post=⟨[],[]⟩ by
    unfold autV
    rw [HKV.out,←HLE.out,Bool.true_and,if_neg]
    rw [decide_eq_true_eq,←HSL.out]
    exact h10)
   have c0:=K2.out.cell 0
   have c1:=K2.out.cell 1
   have f0:=K2.out.free 0
   have f1:=K2.out.free 1
   go_wp2
   obtain ⟨wz,hwz⟩:∃ wz,wz=(w2.setCell ⟨w.heap.size,0,none⟩ (.slice none 0 0)).setCell ⟨w.heap.size,1,none⟩ (.slice none 0 0):=⟨_,rfl⟩
   have KZ:=K2.out.au2 (.slice none 0 0) (.slice none 0 0)
   have HO:=Outside.set2' w.heap.size w2 (.slice none 0 0) (.slice none 0 0)
   rw [←hwz] at KZ HO
   simp only [←hwz]
   have q0:=KZ.cell 0
   have q1:=KZ.cell 1
   refine bodyPost_ret (v:=.agg #[.slice none 0 0,.slice none 0 0]) (by simp [results,Tryz.results180,go_sem,q0,q1]) rfl (RetV.mk _ rfl ⟨?_,Below.outside HB2.out HO (le_ _) HB2.out.size⟩)
   rw [HE.out]
   exact AuW.nils _ _ _
section
open Go.Maps (Keyed)
set_option maxRecDepth 100000
abbrev kvP (p:Nat × Nat):Value:=.agg #[.int .i64 (p.1:Nat),.int .i64 (p.2:Nat)]
def klP (p:Nat × Nat):Lit:=.string (keyBytes [.int .i64 (p.1:Nat),.int .i64 (p.2:Nat)])
abbrev FitP (p:Nat × Nat):Prop:=p.1<1048576∧p.2<1048576
theorem pairWide:(match Tryz.prog.underlying 151 with | some (.array _ _) | some (.struct _)=>true | _=>false)=true:=by kernel_rfl
theorem pairRow:(151:TypeId)<Tryz.prog.types.size:=of_decide_eq_true (by kernel_rfl)
theorem cellsPair:Tryz.prog.cellsOf 151=2:=by kernel_rfl
theorem cellsInt:Tryz.prog.cellsOf 3=1:=by kernel_rfl
theorem pairAt:Tryz.prog.keyTypeAt 3 151=true:=by kernel_rfl
theorem pairKey:Tryz.prog.keyType 151=true:=by kernel_rfl
theorem pairLaw:Keyed Tryz.prog 151:=Keyed.of_law (deep_law_laid laidOut (m:=3) (by omega) pairRow pairAt pairWide)
theorem wf_small {n:Nat} (h:n<1048576):(Lit.int .i64 (n:Nat)).wf=true:=WalkArith.wf_i64 (by omega)
theorem pair_key {p:Nat × Nat} (h:FitP p):keyOf Tryz.prog 151 (kvP p)=some (klP p):=by
 have h1:=wf_small h.1
 have h2:=wf_small h.2
 obtain ⟨m,hm⟩:∃ m,Tryz.prog.types.size=m+2:=⟨Tryz.prog.types.size-2,by have h:(151:Nat)<Tryz.prog.types.size:=pairRow;omega⟩
 unfold keyOf
 simp only [Tryz.underlying151]
 rw [if_pos (by rw [pairKey];simp [Value.formed,Tryz.underlying151,cellsPair]),hm]
 simp [Program.keyLits,Tryz.underlying151,Tryz.underlying3,cellsInt,cellsPair,Value.cells,h1,h2,klP]
theorem kvP_inj {p q:Nat × Nat} (h:kvP p=kvP q):p=q:=by
 simp only [kvP,Value.agg.injEq] at h
 have:=congrArg Array.toList h
 simp at this
 exact Prod.ext (by omega) (by omega)
theorem klP_inj {p q:Nat × Nat} (hp:FitP p) (hq:FitP q) (h:klP p=klP q):p=q:=kvP_inj (pairLaw.inj (pair_key hp) (by rw [h];exact pair_key hq))
theorem klP_key {p:Nat × Nat} (h:FitP p):WideAt.IsKeyLit (klP p):=pairLaw.key (pair_key h)
noncomputable abbrev RdB:Value→Option (DataW Unit × List MemPlace):=plainElem Tryz.prog 4
theorem rdB_inv {v:Value} {z:DataW Unit × List MemPlace} (h:RdB v=some z):∃ b,v=.bool b∧z=(.lit (.bool b),[]):=by
 unfold RdB plainElem at h
 rw [Tryz.underlying4] at h
 cases v<;>simp at h
 subst h
 exact ⟨_,rfl,rfl⟩
theorem zeroB (w:World):(zeroValue 4).run Tryz.prog w=.ok (.bool false) w:=by kernel_rfl
def PM (w:World) (b:Nat) (ps:List (Nat × Nat)):Prop:=∃ D:DataW Unit,w.ownsMap Tryz.prog 151 RdB b ps.length D∧(∀ p∈ps,FitP p)∧(∀ p,FitP p→D.atKey (klP p) (.lit (.bool false))=.lit (.bool (decide (p∈ps))))∧∀ kl,Maps.has D kl=true→∃ p∈ps,kl=klP p
theorem PM.lt {w:World} {b:Nat} {ps:List (Nat × Nat)} (h:PM w b ps):b<w.heap.size:=by obtain ⟨D,h1,_⟩:=h;exact h1.lt
theorem PM.blk {w w':World} {b:Nat} {ps:List (Nat × Nat)} (h:PM w b ps) (e:w'.heap[b]?=w.heap[b]?):PM w' b ps:=by
 obtain ⟨D,⟨es,c,hb,r⟩,h2⟩:=h
 exact ⟨D,⟨es,c,e.trans hb,r⟩,h2⟩
theorem PM.below {w w':World} {b B:Nat} {ps:List (Nat × Nat)} (h:PM w b ps) (hb:Below B w w') (hB:b<B):PM w' b ps:=h.blk (hb.block b hB)
theorem PM.made (w:World):PM (w.alloc (.map #[] 0)) w.heap.size []:=⟨.map [],World.ownsMap_made _ _ _ _,by simp,fun p _=>by simp [DataW.atKey],fun kl h=>by simp [Maps.has] at h⟩
theorem PM.look {w:World} {b:Nat} {ps:List (Nat × Nat)} (h:PM w b ps) {p:Nat × Nat} (hp:FitP p):(Instr.lookup 191 (.map (some b)) (kvP p) false).run Tryz.prog w=.ok (.bool (decide (p∈ps))) w:=by
 obtain ⟨D,h1,_,h3,_⟩:=h
 obtain ⟨v,q,hrun,hv⟩:=h1.lookup pairLaw Tryz.underlying191 (zeroB w) (plainElem_bool Tryz.underlying4 false) (pair_key hp)
 obtain ⟨x,rfl,e⟩:=rdB_inv hv
 rw [h3 p hp] at e
 simp only [Prod.mk.injEq,DataW.lit.injEq,Lit.bool.injEq] at e
 rw [hrun,e.1]
theorem PM.put {w:World} {b:Nat} {ps:List (Nat × Nat)} (h:PM w b ps) {p:Nat × Nat} (hp:FitP p) (hn:ps.length≤100000000) :
  ∃ w',(Instr.mapUpdate 191 (.map (some b)) (kvP p) (.bool true)).run Tryz.prog w=.ok () w'∧PM w' b (ps++[p])∧w.grownBy w' (some b):=by
 obtain ⟨D,h1,h2,h3,h4⟩:=h
 obtain ⟨w',r1,r2,r3⟩:=h1.update pairLaw Tryz.underlying191 (by unfold maxLen;omega) (pair_key hp) (plainElem_bool Tryz.underlying4 true)
 refine ⟨w',r1,⟨_,by simpa using r2,fun q hq=>?_,fun q hq=>?_,fun kl hk=>?_⟩,r3⟩
 ·rcases List.mem_append.1 hq with hq|hq
  ·exact h2 q hq
  ·simp only [List.mem_singleton] at hq;subst hq;exact hp
 ·by_cases e:q=p
  ·subst e
   rw [Maps.atKey_put_same h1.isMap (klP_key hp)]
   simp
  ·rw [Maps.atKey_put_other (fun x=>e (klP_inj hq hp x)),h3 q hq]
   simp [e]
 ·by_cases e:kl=klP p
  ·exact ⟨p,by simp,e⟩
  ·rw [Maps.has_put_other e] at hk
   obtain ⟨q,hq,e2⟩:=h4 kl hk
   exact ⟨q,by simp [hq],e2⟩
theorem PM.grown {w w':World} {b:Nat} (h:w.grownBy w' (some b)):Outside b (b+1) w w':=grown_outside h fun g hg=>by injection hg with hg;subst hg;exact ⟨le_ _,Nat.lt_succ_self _⟩
end
section
open Go.Maps (Keyed)
def RP (w:World) (b r:Nat) (qs:List (Nat × Nat)) (G:Nat × Nat→Prop) (cnt:Nat):Prop:=PM w b qs∧∃ (n:Nat) (D:DataW Unit) (left:Lit→Bool),w.ranges Tryz.prog 151 RdB b r n D left cnt∧(∀ kl,left kl=true→∃ p∈qs,kl=klP p)∧∀ p∈qs,left (klP p)=true∨G p
theorem RP.blk {w w':World} {b r cnt:Nat} {qs:List (Nat × Nat)} {G:Nat × Nat→Prop} (h:RP w b r qs G cnt) (e1:w'.heap[b]?=w.heap[b]?) (e2:w'.heap[r]?=w.heap[r]?):RP w' b r qs G cnt:=by
 obtain ⟨hp,n,D,left,⟨es,clock,since,seen,c0,h1,h2,h3,h4,h5,rest⟩,hl⟩:=h
 exact ⟨hp.blk e1,n,D,left,⟨es,clock,since,seen,c0,e1.trans h1,h2,h3,h4,e2.trans h5,rest⟩,hl⟩
theorem RP.lt {w:World} {b r cnt:Nat} {qs:List (Nat × Nat)} {G:Nat × Nat→Prop} (h:RP w b r qs G cnt):r<w.heap.size:=by
 obtain ⟨hp,n,D,left,h,_⟩:=h
 exact h.lt
theorem RP.below {w w':World} {b r cnt:Nat} {qs:List (Nat × Nat)} {G:Nat × Nat→Prop} (h:RP w b r qs G cnt) (hb:Below w.heap.size w w'):RP w' b r qs G cnt:=h.blk (hb.block b h.1.lt) (hb.block r h.lt)
theorem RP.weak {w:World} {b r cnt:Nat} {qs:List (Nat × Nat)} {G G':Nat × Nat→Prop} (h:RP w b r qs G cnt) (hg:∀ p,G p→G' p):RP w b r qs G' cnt:=by
 obtain ⟨hp,n,D,left,h1,h2,h3⟩:=h
 exact ⟨hp,n,D,left,h1,h2,fun p hp=>(h3 p hp).imp id (hg p)⟩
theorem RP.left {w:World} {b r cnt:Nat} {qs:List (Nat × Nat)} {G:Nat × Nat→Prop} (h:RP w b r qs G cnt):w.rangeLeft b r=cnt:=by
 obtain ⟨hp,n,D,left,h,_⟩:=h
 exact h.left_eq
section
variable (w:World) {ops:Array Oper} {rest:List Oper} {o:Oper} {a:Act} {Q:Exit→Act→World→Prop}
theorem wpList_range_pm (hg:o.guard=none) (m:Operand) (hop:o.op=Op.range 191 m) (b:Nat) (qs:List (Nat × Nat)) (hm:a.eval m=.map (some b)) (h:PM w b qs)
  (G:Nat × Nat→Prop) (hK:∀ w' cnt,RP w' b w.heap.size qs G cnt→w.grownBy w' none→w'.heap.size=w.heap.size+1→wpList Tryz.prog ops Q rest (a.put o.dst (.pointer (some ⟨w.heap.size,0,none⟩))) w'):wpList Tryz.prog ops Q (o :: rest) a w:=by
 have hp:=h
 obtain ⟨D,h1,h2,h3,h4⟩:=h
 refine wpList_range_own w hg m 191 hop 151 4 pairLaw Tryz.underlying191 RdB b qs.length D hm h1 fun w' r1 r2 r3=>hK w' _ ⟨?_,_,D,_,r1,fun kl hk=>h4 kl hk,fun p hp=>.inl ?_⟩ r2 r3
 ·exact hp.blk (r2.block b h1.lt (by simp))
 ·cases hh:Maps.has D (klP p)
  ·have e:=(Maps.atKey_of_not_has hh (.lit (.bool false))).symm.trans (h3 p (h2 p hp))
   simp [hp] at e
  ·rfl
theorem wpList_next_pm (hg:o.guard=none) (it:Operand) (hop:o.op=Op.next it false) (b r cnt:Nat) (qs:List (Nat × Nat)) (G:Nat × Nat→Prop) (hit:a.eval it=.pointer (some ⟨r,0,none⟩)) (h:RP w b r qs G cnt)
  (hDone:(∀ p∈qs,G p)→wpList Tryz.prog ops Q rest (a.put o.dst (.tuple #[.bool false])) w)
  (hMore:∀ (x y:Nat) (c:Value) (w':World) (cnt':Nat),(x,y)∈qs→x<1048576→y<1048576→RP w' b r qs (fun p=>G p∨p=(x,y)) cnt'→cnt' < cnt→Outside r (r+1) w w'→w'.heap.size=w.heap.size →
   (Instr.entry (.pointer (some ⟨r,0,none⟩))).run Tryz.prog w'=.ok (.tuple #[.agg #[.int .i64 (x:Nat),.int .i64 (y:Nat)],c]) w'→wpList Tryz.prog ops Q rest (a.put o.dst (.tuple #[.bool true,.agg #[.int .i64 (x:Nat),.int .i64 (y:Nat)],c])) w'):wpList Tryz.prog ops Q (o :: rest) a w:=by
 refine wpList_plain hg fun K' hK'=>?_
 obtain ⟨hp,n,D,left,hr,hl,hG⟩:=h
 unfold Oper.wp
 rcases hr.next pairLaw o.type with ⟨h0,h0l,hrun⟩|⟨key,v,kl,y,w',cnt',hkey,hlk,hv,hat,hrun,hrg,hlt,hgr,hsz,hen⟩
 ·simp [execOp,hop,hit,hrun,Result.andThen]
  exact hK' _ _ (hDone fun p hp=>(hG p hp).resolve_left (by rw [h0l];simp))
 ·obtain ⟨p,hpq,rfl⟩:=hl kl hlk
  obtain ⟨D',_,hf,_⟩:=id hp
  have hfp:=hf p hpq
  obtain rfl:=pairLaw.inj hkey (pair_key hfp)
  obtain ⟨c,rfl,_⟩:=rdB_inv hv
  have hne:=hr.ne
  simp [execOp,hop,hit,hrun,Result.andThen]
  refine hK' _ _ (hMore p.1 p.2 (.bool c) w' cnt' hpq hfp.1 hfp.2 ⟨hp.blk (hgr.block b hp.lt (by simp;exact fun e=>hne e.symm)),n,D,_,hrg,fun kl hk=>hl kl ?_,fun q hq=>?_⟩ hlt (PM.grown hgr) hsz hen)
  ·simp at hk
   exact hk.1
  ·rcases hG q hq with h|h
   ·by_cases e:q=p
    ·exact .inr (.inr e)
    ·left
     simp [h,Maps.sameKey_ne fun x=>e (klP_inj (hf q hq) hfp x)]
   ·exact .inr (.inl h)
end
end
def encP (x:Nat × Nat):List Value:=[.int .i64 (x.1:Nat),.int .i64 (x.2:Nat)]
def prs (l:List (Nat × Nat)):List Value:=l.flatMap encP
theorem prs_length (l:List (Nat × Nat)):(prs l).length=l.length*2:=by
 induction l with
 | nil=>rfl
 | cons m r ih=>simp only [prs,List.flatMap_cons,List.length_append] at *;rw [ih];simp [encP];omega
theorem prs_append (l m:List (Nat × Nat)):prs (l++m)=prs l++prs m:=by simp [prs]
theorem prs_get (l:List (Nat × Nat)):∀ (i:Nat) (h:i<l.length),(prs l)[i*2]?=some (.int .i64 (l[i].1:Nat))∧(prs l)[i*2+1]?=some (.int .i64 (l[i].2:Nat)):=by
 induction l with
 | nil=>intro i h;simp at h
 | cons m r ih=>
  intro i h
  cases i with
  | zero=>simp [prs,encP]
  | succ i=>
   have hi:i<r.length:=by simpa using h
   obtain ⟨h1,h2⟩:=ih i hi
   have e:∀ j,(prs (m :: r))[(i+1)*2+j]?=(prs r)[i*2+j]?:=by
    intro j
    have:(prs (m :: r))=encP m++prs r:=by simp [prs]
    rw [this,List.getElem?_append_right (by simp [encP];omega)]
    congr 1
    simp [encP];omega
   refine ⟨?_,?_⟩
   ·rw [show (i+1)*2=(i+1)*2+0 by omega,e 0];simpa using h1
   ·rw [e 1];simpa using h2
def OwnP (lo hi:Nat) (w:World) (v:Value) (l:List (Nat × Nat)):Prop:=Own 2 lo hi 151 w v l.length (prs l)
theorem OwnP.below {lo hi B:Nat} {w w':World} {v:Value} {xs:List (Nat × Nat)} (h:OwnP lo hi w v xs) (hb:Below B w w') (hB:hi≤B):OwnP lo hi w' v xs:=Own.below h hb hB
theorem OwnP.lower {lo lo' hi hi':Nat} {w:World} {v:Value} {xs:List (Nat × Nat)} (h:OwnP lo hi w v xs) (h1:lo'≤lo) (h2:hi≤hi'):OwnP lo' hi' w v xs:=Own.wide2 h h1 h2
theorem OwnP.get {lo hi cap n:Nat} {w:World} {a:Option Addr} {l:List (Nat × Nat)} (h:OwnP lo hi w (.slice a n cap) l) (i:Nat) (hi':i<l.length) :
  ∃ g,a=some ⟨g,0,none⟩∧lo≤g∧g<hi∧g<w.heap.size∧w.cell? ⟨g,i*2,none⟩=some (.int .i64 (l[i].1:Nat))∧w.cell? ⟨g,i*2+1,none⟩=some (.int .i64 (l[i].2:Nat)):=by
 rcases h.1.2 with ⟨e,h0⟩|⟨g,cap',cur,e,hb,hg,rest⟩
 ·have:=h.1.1
  have:=prs_length l
  simp [h0] at this
  omega
 ·injection e with e1 e2 e3
  subst e1
  have hl:=h.lt g rfl
  obtain ⟨g1,g2⟩:=prs_get l i hi'
  have k1:=h.1.cells (g:=g) rfl _ _ g1
  have k2:=h.1.cells (g:=g) rfl _ _ g2
  rw [Addr.add_lit,Nat.zero_add] at k1 k2
  exact ⟨g,rfl,hl.1,hl.2,(Array.getElem?_eq_some_iff.1 hg).1,k1,k2⟩
def encW (x:(Nat × Nat) × Value):List Value:=[.int .i64 (x.1.1:Nat),.int .i64 (x.1.2:Nat),x.2]
def wys (l:List ((Nat × Nat) × Value)):List Value:=l.flatMap encW
theorem wys_length (l:List ((Nat × Nat) × Value)):(wys l).length=l.length*3:=by
 induction l with
 | nil=>rfl
 | cons m r ih=>simp only [wys,List.flatMap_cons,List.length_append] at *;rw [ih];simp [encW];omega
theorem wys_append (l m:List ((Nat × Nat) × Value)):wys (l++m)=wys l++wys m:=by simp [wys]
theorem wys_get (l:List ((Nat × Nat) × Value)):∀ (i:Nat) (h:i<l.length),(wys l)[i*3]?=some (.int .i64 (l[i].1.1:Nat))∧(wys l)[i*3+1]?=some (.int .i64 (l[i].1.2:Nat))∧(wys l)[i*3+2]?=some l[i].2:=by
 induction l with
 | nil=>intro i h;simp at h
 | cons m r ih=>
  intro i h
  cases i with
  | zero=>simp [wys,encW]
  | succ i=>
   have hi:i<r.length:=by simpa using h
   obtain ⟨h1,h2,h3⟩:=ih i hi
   have e:∀ j,(wys (m :: r))[(i+1)*3+j]?=(wys r)[i*3+j]?:=by
    intro j
    have:(wys (m :: r))=encW m++wys r:=by simp [wys]
    rw [this,List.getElem?_append_right (by simp [encW];omega)]
    congr 1
    simp [encW];omega
   refine ⟨?_,?_,?_⟩
   ·rw [show (i+1)*3=(i+1)*3+0 by omega,e 0];simpa using h1
   ·rw [e 1];simpa using h2
   ·rw [e 2];simpa using h3
structure WyL (lo hi:Nat) (w:World) (v:Value) (n:Nat) (ws:List ((Nat × Nat) × Value)) (l:List ((Nat × Nat) × List Int)):Prop where
 own:Own 3 lo hi 193 w v ws.length (wys ws)
 len:ws.length=l.length
 tr:∀ i (h1:i<ws.length) (h2:i<l.length),ws[i].1=l[i].1∧OwnI lo hi 3 w ws[i].2 l[i].2∧l[i].2.length≤n
theorem WyL.below {lo hi B n:Nat} {w w':World} {v:Value} {ws:List ((Nat × Nat) × Value)} {l:List ((Nat × Nat) × List Int)} (h:WyL lo hi w v n ws l) (hb:Below B w w') (hB:hi≤B):WyL lo hi w' v n ws l:=
 ⟨h.own.below hb hB,h.len,fun i h1 h2=>by obtain ⟨k0,k1,k2⟩:=h.tr i h1 h2;exact ⟨k0,k1.below hb hB,k2⟩⟩
theorem WyL.lower {lo lo' hi hi' n n':Nat} {w:World} {v:Value} {ws:List ((Nat × Nat) × Value)} {l:List ((Nat × Nat) × List Int)} (h:WyL lo hi w v n ws l) (h1:lo'≤lo) (h2:hi≤hi') (hn:n≤n'):WyL lo' hi' w v n' ws l:=
 ⟨h.own.wide2 h1 h2,h.len,fun i j1 j2=>by obtain ⟨k0,k1,k2⟩:=h.tr i j1 j2;exact ⟨k0,k1.lower h1 h2,Nat.le_trans k2 hn⟩⟩
theorem WyL.nil (lo hi:Nat) (w:World) (n:Nat):WyL lo hi w (.slice none 0 0) n [] []:=⟨Own.nil _ _ _ _ _,rfl,fun i h=>by simp at h⟩
theorem WyL.get {lo hi cap m n:Nat} {w:World} {a:Option Addr} {l:List ((Nat × Nat) × Value)} {tl:List ((Nat × Nat) × List Int)} (h:WyL lo hi w (.slice a m cap) n l tl) (i:Nat) (hi':i<l.length) :
  ∃ g,a=some ⟨g,0,none⟩∧lo≤g∧g<hi∧g<w.heap.size∧w.cell? ⟨g,i*3,none⟩=some (.int .i64 (l[i].1.1:Nat))∧w.cell? ⟨g,i*3+1,none⟩=some (.int .i64 (l[i].1.2:Nat))∧w.cell? ⟨g,i*3+2,none⟩=some l[i].2:=by
 rcases h.own.1.2 with ⟨e,h0⟩|⟨g,cap',cur,e,hb,hg,rest⟩
 ·have:=wys_length l
  rw [h0] at this
  simp at this
  omega
 ·injection e with e1 e2 e3
  subst e1
  have hl:=h.own.lt g rfl
  obtain ⟨g1,g2,g3⟩:=wys_get l i hi'
  have k1:=h.own.1.cells (g:=g) rfl _ _ g1
  have k2:=h.own.1.cells (g:=g) rfl _ _ g2
  have k3:=h.own.1.cells (g:=g) rfl _ _ g3
  rw [Addr.add_lit,Nat.zero_add] at k1 k2 k3
  exact ⟨g,rfl,hl.1,hl.2,(Array.getElem?_eq_some_iff.1 hg).1,k1,k2,k3⟩
theorem OwnI.typedW {lo hi lo' hi' n:Nat} {w w':World} {v u:Value} {xs:List Value} {ys:List Int} (hO:Own 3 lo' hi' 193 w v n xs) (hg:w.grownBy w' v.ownBlock) (hu:OwnI lo hi 3 w u ys):OwnI lo hi 3 w' u ys:=by
 refine ⟨hu.1.kept hg ?_,hu.2⟩
 cases hub:u.ownBlock with
 | none=>exact .inl rfl
 | some k=>
  right
  intro e
  rcases hu.1.2 with ⟨rfl,_⟩|⟨g',cap',cur',rfl,_,hg',_⟩
  ·cases hub
  ·rcases hO.1.2 with ⟨rfl,_⟩|⟨gO,capO,curO,rfl,_,hgO,_⟩
   ·cases e
   ·simp only [Value.ownBlock,Option.some.injEq] at hub e
    rw [hub,e] at hg'
    rw [hg'] at hgO
    injection hgO with hgO
    injection hgO with _ h2 _
    exact absurd h2 (by decide)
theorem WyL.push {lo hi n:Nat} {w w':World} {v v' s:Value} {ws:List ((Nat × Nat) × Value)} {l:List ((Nat × Nat) × List Int)} {p:Nat × Nat} {t:List Int} (h:WyL lo hi w v n ws l) (hs:OwnI lo hi 3 w s t) (ht:t.length≤n)
  (ho:Own 3 lo w'.heap.size 193 w' v' (ws.length+1) (wys ws++encW (p,s))) (hg:w.grownBy w' v.ownBlock) (hh:hi≤w'.heap.size):WyL lo w'.heap.size w' v' n (ws++[(p,s)]) (l++[(p,t)]):=by
 have hl:=h.len
 refine ⟨by rw [List.length_append,wys_append];simpa [wys] using ho,by simp [hl],fun i h1 h2=>?_⟩
 by_cases hi':i<ws.length
 ·have hi2:i<l.length:=by omega
  rw [List.getElem_append_left hi',List.getElem_append_left hi2]
  obtain ⟨k0,k1,k2⟩:=h.tr i hi' hi2
  exact ⟨k0,(OwnI.typedW h.own hg k1).lower (le_ _) hh,k2⟩
 ·have e:i=ws.length:=by simp at h1;omega
  subst e
  rw [List.getElem_append_right (le_ _),List.getElem_append_right (by omega)]
  simp only [Nat.sub_self,List.getElem_cons_zero]
  have e2:∀ j (hj:j < [(p,t)].length),j=0→[(p,t)][j]=(p,t):=by intro j hj e;subst e;rfl
  rw [e2 _ _ (by omega)]
  exact ⟨rfl,(OwnI.typedW h.own hg hs).lower (le_ _) hh,ht⟩
def AuS (lo hi:Nat) (w:World) (v:Value) (a:Au):Prop:=∃ va vb,v=.agg #[va,vb]∧SlI lo hi w va a.ends∧SlLL lo hi w vb a.next
theorem AuS.below {lo hi B:Nat} {w w':World} {v:Value} {a:Au} (h:AuS lo hi w v a) (hb:Below B w w') (hB:hi≤B):AuS lo hi w' v a:=by
 obtain ⟨va,vb,rfl,h1,h2⟩:=h
 exact ⟨va,vb,rfl,h1.below hb hB,h2.below hb hB⟩
theorem AuS.outside {lo hi lo' hi':Nat} {w w':World} {v:Value} {a:Au} (h:AuS lo hi w v a) (ho:Outside lo' hi' w w') (hd:hi≤lo'∨hi'≤lo):AuS lo hi w' v a:=by
 obtain ⟨va,vb,rfl,h1,h2⟩:=h
 exact ⟨va,vb,rfl,h1.outside ho hd,h2.outside ho hd⟩
theorem AuS.wide {lo hi lo' hi':Nat} {w:World} {v:Value} {a:Au} (h:AuS lo hi w v a) (h1:lo'≤lo) (h2:hi≤hi'):AuS lo' hi' w v a:=by
 obtain ⟨va,vb,rfl,k1,k2⟩:=h
 exact ⟨va,vb,rfl,k1.wide h1 h2,k2.wide h1 h2⟩
structure AuOk (a:Au):Prop where
 le:a.ends.length≤10
 len:a.next.length=a.ends.length
 rows:∀ r∈a.next,r.length=12∧∀ x∈r,0≤x∧x.toNat<2 ^ 10
 ends:∀ x∈a.ends,0≤x∧x.toNat<2 ^ 4
 top:∀ set m,m<12→stepU a set m<2 ^ a.ends.length
theorem autV_top (e:List Int) (set m:Nat) (hm:m<12):stepU (autV e) set m<2 ^ (autV e).ends.length:=by
 by_cases hne:(autV e).ends=[]
 ·simp [stepU,hne,imgT]
 ·obtain ⟨t,_,_,_,_,hr⟩:=autV_open hne
  rw [hr.ends_len]
  exact hr.step_lt set hm
theorem autV_ok (e:List Int):AuOk (autV e):=by
 obtain ⟨h1,h2,h3,h4⟩:=autV_small e
 exact ⟨h1,h2,h3,h4,autV_top e⟩
theorem AuOk.step {a:Au} (h:AuOk a) (set:Nat) {m:Nat} (hm:m<12):stepU a set m<1024:=stepU_small h.rows set hm
theorem AuOk.endsLt {a:Au} (h:AuOk a) (set:Nat):endsU a set<16:=endsU_small h.ends set
theorem behindSet_any (lo hi:Nat) (v:Value) (a:Au) (set m:Nat) (w:World) (h:AuS lo hi w v a) (hh:hi≤w.heap.size) (ho:AuOk a) (hs:set<1048576) (hm:m<12) :
  Calls Tryz.prog 182 #[v,.int .i64 (set:Nat),.int .i64 (m:Nat)] w fun e w'=>e=.returned (.int .i64 ((stepU a set m:Nat):Int))∧Below w.heap.size w w':=by
 obtain ⟨va,vb,rfl,hE,hN⟩:=h
 obtain ⟨w0,hw0⟩:∃ w0,w0=w.alloc (.cells #[va,vb] 123):=⟨_,rfl⟩
 have HB:Hid (Below w.heap.size w w0):=by rw [hw0];exact H_ (al_below _ _)
 have K1:Blk w.heap.size (.cells #[va,vb] 123) w0:=by rw [hw0];exact Blk.new w _
 have c0:=K1.cell 0
 have c1:=K1.cell 1
 have HE:=H_ (hE.below HB.out hh)
 have HN:=H_ (hN.below HB.out hh)
 obtain ⟨ea,ec,rfl,_,_⟩:=Sl.shape hE
 obtain ⟨na,nc,hvb,_,_⟩:=hN.shape
 have HO:=H_ ho
 have h10:=ho.le
 have hln:=ho.len
 rw [hln] at hvb
 subst hvb
 obtain ⟨R,hR⟩:∃ R,R=a.next.map fun r:List Int=>r.getD m 0:=⟨_,rfl⟩
 have HRS:=H_ (show stepU a set m=imgT R set a.ends.length by rw [hR];rfl)
 have HRL:Hid (∀ k,imgT R set k<1024):=H_ fun k=>imgT_lt (n:=10) (fun s hs=>by
  subst hR
  simp only [List.length_map] at hs
  obtain ⟨h1,h2⟩:=ho.rows _ (List.getElem_mem hs)
  simp only [List.getElem_map,List.getD]
  rw [List.getElem?_eq_getElem (by omega)]
  exact (h2 _ (List.getElem_mem _)).2) set k
 have HRG:Hid (∀ k (h:k<a.next.length),∃ hm':m<a.next[k].length,∃ x:Nat,a.next[k][m]=(x:Int)∧x<1024∧(R.getD k 0).toNat=x):=H_ fun k hk=>by
  obtain ⟨h1,h2⟩:=ho.rows _ (List.getElem_mem hk)
  have hm':m<a.next[k].length:=by omega
  obtain ⟨h3,h4⟩:=h2 _ (List.getElem_mem hm')
  refine ⟨hm',a.next[k][m].toNat,by omega,h4,?_⟩
  subst hR
  simp [List.getD,List.getElem?_eq_getElem hk,List.getElem?_eq_getElem hm']
 obtain ⟨n,hn⟩:∃ n,n=a.ends.length:=⟨_,rfl⟩
 have HNL:=H_ (show a.next.length=n by rw [hn,hln])
 rw [←hn] at c0 c1 hw0 HRS h10 ⊢
 clear hE hN ho K1 hR hln hn
 go_enter Tryz.func182,Tryz.ntmps182
 go_wp2_with fail
 simp only [←hw0]
 clear hw0
 go_loop [7,12] (fun o i=>∃ k:Nat,k≤n∧i=.int .i64 k∧o=.int .i64 ((imgT R set k:Nat):Int)) (fun _ i=>n-(intOf i).toNat)
 case atStart=>exact ⟨0,by omega,rfl,rfl⟩
 case round=>
  obtain ⟨k,hk,rfl,rfl⟩:=hrel
  by_cases hlt:k<n
  ·have hkn:k<a.next.length:=by rw [HNL.out];exact hlt
   obtain ⟨b,off,u,rfl,_,_,_,hcell,hu⟩:=HN.out.get k hkn
   obtain ⟨hm',x,hx,hx2,hg⟩:=HRG.out k hkn
   obtain ⟨ua,uc,rfl,_,_⟩:=Sl.shape hu
   obtain ⟨b2,off2,rfl,_,_,_,hcell2⟩:=SlI.get hu m hm'
   rw [hx] at hcell2
   have hlr:a.next[k].length=12:=(HO.out.rows _ (List.getElem_mem hkn)).1
   rw [hlr] at hcell
   cases hb:set.testBit k
   ·have hbb:=(bit_and (k:=k) (show set<4611686018427387904 by omega)).trans hb
    have HNN:Hid (imgT R set (k+1)=imgT R set k):=H_ (by rw [imgT,hb];simp)
    clear hb hx hg hu hlr
    go_wp2
    go_round
    case rel=>exact ⟨k+1,by omega,by go_num,by rw [HNN.out]⟩
    case measure=>simp [intOf];omega
   ·have hbb:=(bit_and (k:=k) (show set<4611686018427387904 by omega)).trans hb
    have HNN:Hid (imgT R set (k+1)=imgT R set k ||| x):=H_ (by rw [imgT,hb,hg];simp)
    have HOr:=H_ (bits64_or (imgT R set k) x (by have:=HRL.out k;omega) (by omega))
    clear hb hx hg hu hlr
    go_wp2
    go_round
    case rel=>exact ⟨k+1,by omega,by go_num,by rw [HNN.out,HOr.out]⟩
    case measure=>simp [intOf];omega
  ·obtain rfl:k=n:=by omega
   go_wp2
   go_ret
   exact ⟨by rw [HRS.out];rfl,HB.out⟩
theorem endsOf_any (lo hi:Nat) (v:Value) (a:Au) (set:Nat) (w:World) (h:AuS lo hi w v a) (hh:hi≤w.heap.size) (ho:AuOk a) (hs:set<1048576) :
  Calls Tryz.prog 183 #[v,.int .i64 (set:Nat)] w fun e w'=>e=.returned (.int .i64 ((endsU a set:Nat):Int))∧Below w.heap.size w w':=by
 obtain ⟨va,vb,rfl,hE,hN⟩:=h
 obtain ⟨w0,hw0⟩:∃ w0,w0=w.alloc (.cells #[va,vb] 123):=⟨_,rfl⟩
 have HB:Hid (Below w.heap.size w w0):=by rw [hw0];exact H_ (al_below _ _)
 have K1:Blk w.heap.size (.cells #[va,vb] 123) w0:=by rw [hw0];exact Blk.new w _
 have c0:=K1.cell 0
 have HE:=H_ (hE.below HB.out hh)
 obtain ⟨ea,ec,rfl,_,_⟩:=Sl.shape hE
 have h10:=ho.le
 obtain ⟨R,hR⟩:∃ R,R=a.ends:=⟨_,rfl⟩
 have HRS:=H_ (show endsU a set=imgT R set a.ends.length by rw [hR];rfl)
 have HRL:Hid (∀ k,imgT R set k<16):=H_ fun k=>imgT_lt (n:=4) (fun s hs=>by subst hR;exact (ho.ends _ (List.getElem_mem hs)).2) set k
 have HRG:Hid (∀ k (h:k<R.length),∃ x:Nat,R[k]=(x:Int)∧x<16∧(R.getD k 0).toNat=x):=H_ fun k hk=>by
  subst hR
  obtain ⟨h3,h4⟩:=ho.ends _ (List.getElem_mem hk)
  exact ⟨a.ends[k].toNat,by omega,h4,by simp [List.getD,List.getElem?_eq_getElem hk]⟩
 rw [←hR] at HE c0 hw0 HRS h10 ⊢
 clear hE hN ho K1 hR
 go_enter Tryz.func183,Tryz.ntmps183
 go_wp2_with fail
 simp only [←hw0]
 clear hw0
 go_loop [5,11] (fun o i=>∃ k:Nat,k≤R.length∧i=.int .i64 k∧o=.int .i64 ((imgT R set k:Nat):Int)) (fun _ i=>R.length-(intOf i).toNat)
 case atStart=>exact ⟨0,by omega,rfl,rfl⟩
 case round=>
  obtain ⟨k,hk,rfl,rfl⟩:=hrel
  by_cases hlt:k<R.length
  ·obtain ⟨x,hx,hx2,hg⟩:=HRG.out k hlt
   obtain ⟨b2,off2,rfl,_,_,_,hcell2⟩:=SlI.get HE.out k hlt
   rw [hx] at hcell2
   cases hb:set.testBit k
   ·have hbb:=(bit_and (k:=k) (show set<4611686018427387904 by omega)).trans hb
    have HNN:Hid (imgT R set (k+1)=imgT R set k):=H_ (by rw [imgT,hb];simp)
    clear hb hx hg
    go_wp2
    go_round
    case rel=>exact ⟨k+1,by omega,by go_num,by rw [HNN.out]⟩
    case measure=>simp [intOf];omega
   ·have hbb:=(bit_and (k:=k) (show set<4611686018427387904 by omega)).trans hb
    have HNN:Hid (imgT R set (k+1)=imgT R set k ||| x):=H_ (by rw [imgT,hb,hg];simp)
    have HOr:=H_ (bits64_or (imgT R set k) x (by have:=HRL.out k;omega) (by omega))
    clear hb hx hg
    go_wp2
    go_round
    case rel=>exact ⟨k+1,by omega,by go_num,by rw [HNN.out,HOr.out]⟩
    case measure=>simp [intOf];omega
  ·obtain rfl:k=R.length:=by omega
   go_wp2
   go_ret
   exact ⟨by rw [HRS.out];rfl,HB.out⟩
structure TgS (lo hi:Nat) (w:World) (v1 v2 v3 v4:Value) (a b:Au):Prop where
 one:AuS lo hi w (.agg #[v1,v2]) a
 two:AuS lo hi w (.agg #[v3,v4]) b
theorem TgS.below {lo hi B:Nat} {w w':World} {v1 v2 v3 v4:Value} {a b:Au} (h:TgS lo hi w v1 v2 v3 v4 a b) (hb:Below B w w') (hB:hi≤B):TgS lo hi w' v1 v2 v3 v4 a b:=⟨h.one.below hb hB,h.two.below hb hB⟩
theorem TgS.outside {lo hi lo' hi':Nat} {w w':World} {v1 v2 v3 v4:Value} {a b:Au} (h:TgS lo hi w v1 v2 v3 v4 a b) (ho:Outside lo' hi' w w') (hd:hi≤lo'∨hi'≤lo):TgS lo hi w' v1 v2 v3 v4 a b:=⟨h.one.outside ho hd,h.two.outside ho hd⟩
theorem TgS.wide {lo hi lo' hi':Nat} {w:World} {v1 v2 v3 v4:Value} {a b:Au} (h:TgS lo hi w v1 v2 v3 v4 a b) (h1:lo'≤lo) (h2:hi≤hi'):TgS lo' hi' w v1 v2 v3 v4 a b:=⟨h.one.wide h1 h2,h.two.wide h1 h2⟩
theorem set2_blk {g:Nat} {e:TypeId} {w:World} {x0 x1:Value} (h:Blk g (.cells #[x0,x1] e (0,0)) w) (a b:Value):Blk g (.cells #[a,b] e (0,0)) ((w.setCell ⟨g,0,none⟩ a).setCell ⟨g,1,none⟩ b):=(h.put 0 a).put 1 b
theorem set2_out (g:Nat) (w:World) (a b:Value):Outside g (g+1) w ((w.setCell ⟨g,0,none⟩ a).setCell ⟨g,1,none⟩ b):=
 ((Outside.refl _ _ _).setCell (p:=⟨g,0,none⟩) (le_ _) (Nat.lt_succ_self _) _).setCell (p:=⟨g,1,none⟩) (le_ _) (Nat.lt_succ_self _) _
theorem next_any (lo hi:Nat) (v1 v2 v3 v4:Value) (a b:Au) (x y m:Nat) (w:World) (h:TgS lo hi w v1 v2 v3 v4 a b) (hh:hi≤w.heap.size) (ha:AuOk a) (hb:AuOk b) (hx:x<1048576) (hy:y<1048576) (hm:m<12) :
  Calls Tryz.prog 140 #[.agg #[v1,v2,v3,v4],.agg #[.int .i64 (x:Nat),.int .i64 (y:Nat)],.int .i64 (m:Nat)] w fun e w'=>e=.returned (.agg #[.int .i64 ((stepU a x m:Nat):Int),.int .i64 ((stepU b y m:Nat):Int)])∧Below w.heap.size w w':=by
 obtain ⟨wa,hwa⟩:∃ wa,wa=w.alloc (.cells #[v1,v2,v3,v4] 143):=⟨_,rfl⟩
 obtain ⟨wb,hwb⟩:∃ wb,wb=wa.alloc (.cells #[.int .i64 (x:Nat),.int .i64 (y:Nat)] 151):=⟨_,rfl⟩
 obtain ⟨wc,hwc⟩:∃ wc,wc=wb.alloc (.cells #[.int .i64 0,.int .i64 0] 151):=⟨_,rfl⟩
 have ha1:Below w.heap.size w wa:=by rw [hwa];exact al_below _ _
 have hb1:Below wa.heap.size wa wb:=by rw [hwb];exact al_below _ _
 have hc1:Below wb.heap.size wb wc:=by rw [hwc];exact al_below _ _
 have ka:Blk w.heap.size (.cells #[v1,v2,v3,v4] 143) wa:=by rw [hwa];exact Blk.new w _
 have kb:Blk wa.heap.size (.cells #[.int .i64 (x:Nat),.int .i64 (y:Nat)] 151) wb:=by rw [hwb];exact Blk.new wa _
 have kc:Blk wb.heap.size (.cells #[.int .i64 0,.int .i64 0] 151) wc:=by rw [hwc];exact Blk.new wb _
 have sa:wa.heap.size=w.heap.size+1:=by rw [hwa];simp
 have sb:wb.heap.size=w.heap.size+2:=by rw [hwb];simp;omega
 have sc:wc.heap.size=w.heap.size+3:=by rw [hwc];simp;omega
 have HB:Hid (Below w.heap.size w wc):=H_ ((ha1.trans (hb1.mono (by omega))).trans (hc1.mono (by omega)))
 have KA:=H_ ((ka.below hb1 (by omega)).below hc1 (by omega))
 have KB:=H_ (kb.below hc1 (by omega))
 have KC:=H_ kc
 rw [sa] at KB
 rw [sb] at KC
 have HT:=H_ (h.below HB.out hh)
 have HAO:=H_ ha
 have HBO:=H_ hb
 have HS:Hid (∀ w':World,Below wc.heap.size wc w'→(w'.cell? ⟨w.heap.size,0,none⟩=some v1∧w'.cell? ⟨w.heap.size,1,none⟩=some v2∧w'.cell? ⟨w.heap.size,2,none⟩=some v3∧w'.cell? ⟨w.heap.size,3,none⟩=some v4∧w'.cell? ⟨w.heap.size+1,0,none⟩=some (.int .i64 (x:Nat))∧w'.cell? ⟨w.heap.size+1,1,none⟩=some (.int .i64 (y:Nat)))):=H_ fun w' hb'=>⟨(KA.out.below hb' (by omega)).cell 0,(KA.out.below hb' (by omega)).cell 1,(KA.out.below hb' (by omega)).cell 2,(KA.out.below hb' (by omega)).cell 3,(KB.out.below hb' (by omega)).cell 0,(KB.out.below hb' (by omega)).cell 1⟩
 have HT2:Hid (∀ w2 w3:World,Below wc.heap.size wc w2→Outside (w.heap.size+1+1) (w.heap.size+1+1+1) w2 w3→(w3.cell? ⟨w.heap.size,0,none⟩=some v1∧w3.cell? ⟨w.heap.size,1,none⟩=some v2∧w3.cell? ⟨w.heap.size,2,none⟩=some v3∧w3.cell? ⟨w.heap.size,3,none⟩=some v4∧w3.cell? ⟨w.heap.size+1,0,none⟩=some (.int .i64 (x:Nat))∧w3.cell? ⟨w.heap.size+1,1,none⟩=some (.int .i64 (y:Nat)))):=H_ fun w2 w3 hb' ho'=>by
  have k1:=(KA.out.below hb' (by omega)).outside ho' (by omega)
  have k2:=(KB.out.below hb' (by omega)).outside ho' (by omega)
  exact ⟨k1.cell 0,k1.cell 1,k1.cell 2,k1.cell 3,k2.cell 0,k2.cell 1⟩
 have hC:Hid (∀ w':World,Below wc.heap.size wc w'→Blk (w.heap.size+1+1) (.cells #[.int .i64 0,.int .i64 0] 151) w'):=H_ fun w' hb'=>KC.out.below hb' (by omega)
 obtain ⟨c0,c1,c2,c3,c4,c5⟩:=HS.out wc (B_ _ _)
 obtain ⟨d0,d1,d2,d3,d4,d5⟩:=HS.out wc.drew (Below.drew (B_ _ _))
 have hdz:wc.drew.heap.size=wc.heap.size:=rfl
 clear h ha hb ka kb kc ha1 hb1 hc1
 go_enter Tryz.func140,Tryz.ntmps140
 go_upto_region 1 with fail
 simp only [←hwa,←hwb,←hwc]
 clear hwa hwb hwc
 go_region_held3 (fun w'=>w'.cell? ⟨w.heap.size,0,none⟩=some v1∧w'.cell? ⟨w.heap.size,1,none⟩=some v2∧w'.cell? ⟨w.heap.size,2,none⟩=some v3∧w'.cell? ⟨w.heap.size,3,none⟩=some v4∧w'.cell? ⟨w.heap.size+1,0,none⟩=some (.int .i64 (x:Nat))∧w'.cell? ⟨w.heap.size+1,1,none⟩=some (.int .i64 (y:Nat))) (first | with_reducible assumption | go_keep) (first
  | (go_at_call_of 182 (Value.agg #[v1,v2]);refine (behindSet_any lo hi _ a x m wc.drew HT.out.one (by omega) HAO.out hx hm).mono ?_;rintro e1 w1 ⟨rfl,hb1_⟩;(have hz1:=hb1_.size);(have hb1:Below wc.heap.size wc w1:=(Below.drew (B_ _ _)).trans (hb1_.mono (le_ _)));obtain ⟨f0,f1,f2,f3,f4,f5⟩:=HS.out _ hb1;(have HB1:=H_ hb1);clear hb1_ hb1)
  | (go_at_call_of 182 (Value.agg #[v3,v4]);refine (behindSet_any lo hi _ b y m w1 (HT.out.two.below HB1.out (by omega)) (by omega) HBO.out hy hm).mono ?_;rintro e2 w2 ⟨rfl,hb2_⟩;(have hz2:=hb2_.size);(have hb2:Below wc.heap.size wc w2:=HB1.out.trans (hb2_.mono (by omega)));obtain ⟨g0,g1,g2,g3,g4,g5⟩:=HS.out _ hb2;(have hk2:=hC.out _ hb2);(have p0:=hk2.cell 0);(have p1:=hk2.cell 1);(have p2:=hk2.free 0);(have p3:=hk2.free 1);(have hO2:=set2_out (w.heap.size+1+1) w2 (.int .i64 ((stepU a x m:Nat):Int)) (.int .i64 ((stepU b y m:Nat):Int)));(have hk3:=set2_blk hk2 (.int .i64 ((stepU a x m:Nat):Int)) (.int .i64 ((stepU b y m:Nat):Int)));obtain ⟨i0,i1,i2,i3,i4,i5⟩:=HT2.out _ _ hb2 hO2;(have HB2:=H_ (Below.outside (HB.out.trans (hb2.mono (by omega))) hO2 (by omega) (by omega)));(have HK2:=H_ hk3);clear hb2_ hb2 hk2 hO2 hk3))
 generalize ((w2.setCell ⟨w.heap.size+1+1,0,none⟩ (.int .i64 ((stepU a x m:Nat):Int))).setCell ⟨w.heap.size+1+1,1,none⟩ (.int .i64 ((stepU b y m:Nat):Int)))=wz at HB2 HK2 i0 i1 i2 i3 i4 i5 ⊢
 have q0:=HK2.out.cell 0
 have q1:=HK2.out.cell 1
 go_wp2
 refine bodyPost_ret (v:=.agg #[.int .i64 ((stepU a x m:Nat):Int),.int .i64 ((stepU b y m:Nat):Int)]) (by simp [results,Tryz.results140,go_sem,q0,q1]) rfl ⟨rfl,HB2.out⟩
theorem apart_any (lo hi:Nat) (v1 v2 v3 v4:Value) (a b:Au) (x y:Nat) (w:World) (h:TgS lo hi w v1 v2 v3 v4 a b) (hh:hi≤w.heap.size) (ha:AuOk a) (hb:AuOk b) (hx:x<1048576) (hy:y<1048576) :
  Calls Tryz.prog 141 #[.agg #[v1,v2,v3,v4],.agg #[.int .i64 (x:Nat),.int .i64 (y:Nat)]] w fun e w'=>e=.returned (.int .i64 ((apartP a b (x,y):Nat):Int))∧Below w.heap.size w w':=by
 obtain ⟨wa,hwa⟩:∃ wa,wa=w.alloc (.cells #[v1,v2,v3,v4] 143):=⟨_,rfl⟩
 obtain ⟨wc,hwc⟩:∃ wc,wc=wa.alloc (.cells #[.int .i64 (x:Nat),.int .i64 (y:Nat)] 151):=⟨_,rfl⟩
 have ha1:Below w.heap.size w wa:=by rw [hwa];exact al_below _ _
 have hb1:Below wa.heap.size wa wc:=by rw [hwc];exact al_below _ _
 have ka:Blk w.heap.size (.cells #[v1,v2,v3,v4] 143) wa:=by rw [hwa];exact Blk.new w _
 have kb:Blk wa.heap.size (.cells #[.int .i64 (x:Nat),.int .i64 (y:Nat)] 151) wc:=by rw [hwc];exact Blk.new wa _
 have sa:wa.heap.size=w.heap.size+1:=by rw [hwa];simp
 have sc:wc.heap.size=w.heap.size+2:=by rw [hwc];simp;omega
 have HB:Hid (Below w.heap.size w wc):=H_ (ha1.trans (hb1.mono (by omega)))
 have KA:=H_ (ka.below hb1 (by omega))
 have KB:=H_ kb
 rw [sa] at KB
 have HT:=H_ (h.below HB.out hh)
 have HAO:=H_ ha
 have HBO:=H_ hb
 have HS:Hid (∀ w':World,Below wc.heap.size wc w'→(w'.cell? ⟨w.heap.size,0,none⟩=some v1∧w'.cell? ⟨w.heap.size,1,none⟩=some v2∧w'.cell? ⟨w.heap.size,2,none⟩=some v3∧w'.cell? ⟨w.heap.size,3,none⟩=some v4∧w'.cell? ⟨w.heap.size+1,0,none⟩=some (.int .i64 (x:Nat))∧w'.cell? ⟨w.heap.size+1,1,none⟩=some (.int .i64 (y:Nat)))):=H_ fun w' hb'=>⟨(KA.out.below hb' (by omega)).cell 0,(KA.out.below hb' (by omega)).cell 1,(KA.out.below hb' (by omega)).cell 2,(KA.out.below hb' (by omega)).cell 3,(KB.out.below hb' (by omega)).cell 0,(KB.out.below hb' (by omega)).cell 1⟩
 obtain ⟨c0,c1,c2,c3,c4,c5⟩:=HS.out wc (B_ _ _)
 obtain ⟨d0,d1,d2,d3,d4,d5⟩:=HS.out wc.drew (Below.drew (B_ _ _))
 have hdz:wc.drew.heap.size=wc.heap.size:=rfl
 have HX:=H_ (bits64_xor (endsU a x) (endsU b y) (by have:=ha.endsLt x;omega) (by have:=hb.endsLt y;omega))
 clear h ha hb ka kb ha1 hb1
 go_enter Tryz.func141,Tryz.ntmps141
 go_upto_region 1 with fail
 simp only [←hwa,←hwc]
 clear hwa hwc
 go_region_held3 (fun w'=>w'.cell? ⟨w.heap.size,0,none⟩=some v1∧w'.cell? ⟨w.heap.size,1,none⟩=some v2∧w'.cell? ⟨w.heap.size,2,none⟩=some v3∧w'.cell? ⟨w.heap.size,3,none⟩=some v4∧w'.cell? ⟨w.heap.size+1,0,none⟩=some (.int .i64 (x:Nat))∧w'.cell? ⟨w.heap.size+1,1,none⟩=some (.int .i64 (y:Nat))) (first | with_reducible assumption | go_keep) (first
  | (go_at_call_of 183 (Value.agg #[v1,v2]);refine (endsOf_any lo hi _ a x wc.drew HT.out.one (by omega) HAO.out hx).mono ?_;rintro e1 w1 ⟨rfl,hb1_⟩;(have hz1:=hb1_.size);(have hb1:Below wc.heap.size wc w1:=(Below.drew (B_ _ _)).trans (hb1_.mono (le_ _)));obtain ⟨f0,f1,f2,f3,f4,f5⟩:=HS.out _ hb1;(have HB1:=H_ hb1);clear hb1_ hb1)
  | (go_at_call_of 183 (Value.agg #[v3,v4]);refine (endsOf_any lo hi _ b y w1 (HT.out.two.below HB1.out (by omega)) (by omega) HBO.out hy).mono ?_;rintro e2 w2 ⟨rfl,hb2_⟩;(have hz2:=hb2_.size);(have hb2:Below wc.heap.size wc w2:=HB1.out.trans (hb2_.mono (by omega)));obtain ⟨g0,g1,g2,g3,g4,g5⟩:=HS.out _ hb2;(have HB2:=H_ (HB.out.trans (hb2.mono (by omega))));clear hb2_ hb2))
 go_wp2
 go_ret
 exact ⟨by rw [HX.out];rfl,HB2.out⟩
structure AusR (w w':World) (v1 v2 v3 v4:Value) (ok:Bool) (e f:List Int):Prop where
 tg:TgS w.heap.size w'.heap.size w' v1 v2 v3 v4 (autV e) (autV f)
 below:Below w.heap.size w w'
 open_:ok=true→(autV e).ends≠[]∧(autV f).ends≠[]
 shut:ok=false→(autV e).ends=[]∨(autV f).ends=[]
theorem autosOf_any (lo hi lo' hi':Nat) (ve vf:Value) (e f:List Int) (w:World) (hx:SlI lo hi w ve e) (hy:SlI lo' hi' w vf f) (hh:hi≤w.heap.size) (hh':hi'≤w.heap.size) (hm:e.length≤1048576) (hm':f.length≤1048576) :
  Calls Tryz.prog 137 #[ve,vf] w (RetV fun r w'=>∃ v1 v2 v3 v4 ok,r=.tuple #[.agg #[v1,v2,v3,v4],.bool ok]∧AusR w w' v1 v2 v3 v4 ok e f):=by
 obtain ⟨w0,hw0⟩:∃ w0,w0=w.alloc (.cells #[.slice none 0 0,.slice none 0 0,.slice none 0 0,.slice none 0 0] 143):=⟨_,rfl⟩
 obtain ⟨hb0,KS_,hs0⟩:=box_facts2 hw0
 have KS:=H_ KS_
 have HB0:=H_ hb0
 have HX:=H_ (hx.below hb0 hh)
 have HY:=H_ (hy.below hb0 hh')
 clear hx hy hb0 KS_
 go_enter Tryz.func137,Tryz.ntmps137
 go_wp2_with fail
 simp only [←hw0]
 clear hw0
 refine (autoOf_any _ _ _ e w0 HX.out (by omega) hm).mono ?_
 rintro e1 w1 ⟨v1,rfl,⟨va,vb,ss,rfl,ha1,ha2⟩,hb1⟩
 have hz1:=hb1.size
 have HA1:=H_ (And.intro ha1 ha2)
 have HB1:=H_ hb1
 clear ha1 ha2 hb1
 go_wp2_with fail
 refine (autoOf_any _ _ _ f w1 (HY.out.below HB1.out (by omega)) (by omega) hm').mono ?_
 rintro e2 w2 ⟨v2,rfl,⟨vc,vd,tt,rfl,ha1,ha2⟩,hb2⟩
 have hz2:=hb2.size
 have HA2:=H_ (And.intro ha1 ha2)
 have HB2:=H_ hb2
 obtain ⟨ca,cca,rfl⟩:=Own.shape HA1.out.1
 obtain ⟨cb,ccb,rfl⟩:=Own.shape HA1.out.2.1
 obtain ⟨cc,ccc,rfl⟩:=Own.shape HA2.out.1
 obtain ⟨cd,ccd,rfl⟩:=Own.shape HA2.out.2.1
 clear ha1 ha2 hb2
 go_upto_region 2 with fail
 obtain ⟨w3,hw3⟩:∃ w3,w3=w2.alloc (.cells #[.slice ca (autV e).ends.length cca,.slice cb ss.length ccb,.slice cc (autV f).ends.length ccc,.slice cd tt.length ccd] 143):=⟨_,rfl⟩
 obtain ⟨hb3,KT,hs3⟩:=box_facts2 hw3
 have HB03:=H_ ((HB1.out.trans (HB2.out.mono hz1)).trans (hb3.mono (by omega)))
 have K3:=KS.out.below HB03.out KS.out.lt
 have HT':Hid (TgS (w.heap.size+1) w3.heap.size w3 (.slice ca (autV e).ends.length cca) (.slice cb ss.length ccb) (.slice cc (autV f).ends.length ccc) (.slice cd tt.length ccd) (autV e) (autV f)):=by
  have h1:AuS w0.heap.size w1.heap.size w1 (.agg #[.slice ca (autV e).ends.length cca,.slice cb ss.length ccb]) (autV e):=⟨_,_,rfl,HA1.out.1.sl,HA1.out.2.sl⟩
  have h2:AuS w1.heap.size w2.heap.size w2 (.agg #[.slice cc (autV f).ends.length ccc,.slice cd tt.length ccd]) (autV f):=⟨_,_,rfl,HA2.out.1.sl,HA2.out.2.sl⟩
  exact H_ ⟨((h1.below HB2.out (le_ _)).below hb3 (by omega)).wide (by omega) (by omega),(h2.below hb3 (le_ _)).wide (by omega) (by omega)⟩
 have t0:=KT.cell 0
 have t1:=KT.cell 1
 have t2:=KT.cell 2
 have t3:=KT.cell 3
 have s0:=K3.cell 0
 have s1:=K3.cell 1
 have s2:=K3.cell 2
 have s3:=K3.cell 3
 have f0:=K3.free 0
 have f1:=K3.free 1
 have f2:=K3.free 2
 have f3:=K3.free 3
 have KZ:=K3.set4 (.slice ca (autV e).ends.length cca) (.slice cb ss.length ccb) (.slice cc (autV f).ends.length ccc) (.slice cd tt.length ccd)
 have HO:=Outside.set4 w.heap.size w3 (.slice ca (autV e).ends.length cca) (.slice cb ss.length ccb) (.slice cc (autV f).ends.length ccc) (.slice cd tt.length ccd)
 have HKZ:=H_ (And.intro KZ HO)
 have d0:w3.drew.cell? ⟨w2.heap.size,0,none⟩=_:=t0
 have d1:w3.drew.cell? ⟨w2.heap.size,1,none⟩=_:=t1
 have d2:w3.drew.cell? ⟨w2.heap.size,2,none⟩=_:=t2
 have d3:w3.drew.cell? ⟨w2.heap.size,3,none⟩=_:=t3
 have hsz3:w2.heap.size≠w.heap.size:=by omega
 simp only [←hw3]
 clear hw3 K3 KZ HO KT hb3
 obtain ⟨n1,hn1⟩:∃ n,n=(autV e).ends.length:=⟨_,rfl⟩
 obtain ⟨n2,hn2⟩:∃ n,n=(autV f).ends.length:=⟨_,rfl⟩
 have H1:=H_ hn1
 have H2:=H_ hn2
 rw [←hn1,←hn2] at HKZ HT'
 rw [←hn1] at t0 d0
 rw [←hn2] at t2 d2
 rw [←hn1,←hn2]
 clear hn1 hn2 HA1 HA2
 cases g1:decide (0<n1)<;>cases g2:decide (0<n2)
 all_goals go_region
 all_goals (
  obtain ⟨wz,hwz⟩:∃ wz,wz=((((w3.setCell ⟨w.heap.size,0,none⟩ (.slice ca n1 cca)).setCell ⟨w.heap.size,1,none⟩ (.slice cb ss.length ccb)).setCell ⟨w.heap.size,2,none⟩ (.slice cc n2 ccc)).setCell ⟨w.heap.size,3,none⟩ (.slice cd tt.length ccd)).drew:=⟨_,rfl⟩
  have KZ:=HKZ.out.1.drew
  have HO:=HKZ.out.2.drw
  rw [←hwz] at KZ HO
  rw [←hwz]
  have q0:=KZ.cell 0
  have q1:=KZ.cell 1
  have q2:=KZ.cell 2
  have q3:=KZ.cell 3
  have HF:=H_ (show TgS w.heap.size wz.heap.size wz (.slice ca n1 cca) (.slice cb ss.length ccb) (.slice cc n2 ccc) (.slice cd tt.length ccd) (autV e) (autV f)∧Below w.heap.size w wz from
   ⟨(((TgS.wide (lo':=w.heap.size+1) HT'.out (le_ _) (le_ _)).outside HO (.inr (le_ _))).wide (Nat.le_succ _) HO.size),Below.outside (HB0.out.trans (HB03.out.mono (by omega))) HO (le_ _) (by omega)⟩)
  clear KZ HO hwz
  go_wp2)
 rotate_left 3
 ·exact bodyPost_ret (v:=.tuple #[.agg #[.slice ca n1 cca,.slice cb ss.length ccb,.slice cc n2 ccc,.slice cd tt.length ccd],.bool true]) (by simp [results,Tryz.results137,go_sem,q0,q1,q2,q3]) rfl (RetV.mk _ rfl ⟨_,_,_,_,_,rfl,HF.out.1,HF.out.2,fun _=>⟨fun h=>by rw [H1.out,h] at g1;simp at g1,fun h=>by rw [H2.out,h] at g2;simp at g2⟩,fun h=>by cases h⟩)
 all_goals
  exact bodyPost_ret (v:=.tuple #[.agg #[.slice ca n1 cca,.slice cb ss.length ccb,.slice cc n2 ccc,.slice cd tt.length ccd],.bool false]) (by simp [results,Tryz.results137,go_sem,q0,q1,q2,q3]) rfl (RetV.mk _ rfl ⟨_,_,_,_,_,rfl,HF.out.1,HF.out.2,(fun h=>by cases h),fun _=>by first | exact .inl (List.eq_nil_of_length_eq_zero (by have:=H1.out;have:=of_decide_eq_false g1;omega)) | exact .inr (List.eq_nil_of_length_eq_zero (by have:=H2.out;have:=of_decide_eq_false g2;omega))⟩)
theorem PM.far {w w':World} {b sz lo hi e n:Nat} {v:Value} {xs:List Value} {qs:List (Nat × Nat)} (h:PM w b qs) (ho:Own sz lo hi e w v n xs) (hg:w.grownBy w' v.ownBlock):PM w' b qs:=by
 refine h.blk (hg.block b h.lt fun e=>?_)
 obtain ⟨D,⟨es,c,hb,_⟩,_⟩:=h
 rcases ho.1.2 with ⟨rfl,_⟩|⟨g,cap,cur,rfl,_,hg',_⟩
 ·cases e
 ·simp only [Value.ownBlock,Option.some.injEq] at e
  subst e
  rw [hb] at hg'
  cases hg'
structure PrI (G:Nat × Nat→Prop) (w wr:World) (v1 v2 v3 v4 v:Value) (ps qs:List (Nat × Nat)):Prop where
 kt:Blk w.heap.size (.cells #[v1,v2,v3,v4] 143 (0,0)) wr
 list:OwnP (w.heap.size+1) wr.heap.size wr v ps
 map:PM wr (w.heap.size+2) qs
 below:Below w.heap.size w wr
 fit:∀ p∈ps,FitP p∧G p
 same:qs=ps
theorem PrI.go {G:Nat × Nat→Prop} {w wr wx:World} {v1 v2 v3 v4 v:Value} {ps qs:List (Nat × Nat)} (h:PrI G w wr v1 v2 v3 v4 v ps qs) (hb:Below wr.heap.size wr wx):PrI G w wx v1 v2 v3 v4 v ps qs:=
 ⟨h.kt.below hb h.kt.lt,(h.list.below hb (le_ _)).lower (le_ _) hb.size,h.map.below hb h.map.lt,h.below.trans (hb.mono h.below.size),h.fit,h.same⟩
theorem PrI.push {G:Nat × Nat→Prop} {w wr wx wy:World} {v1 v2 v3 v4 v v':Value} {ps qs:List (Nat × Nat)} {p:Nat × Nat} (h:PrI G w wr v1 v2 v3 v4 v ps qs) (hp:FitP p) (hgp:G p) (hm:PM wx (w.heap.size+2) (qs++[p])) (hg:wr.grownBy wx (some (w.heap.size+2)))
  (ho:Own 2 (w.heap.size+1) wy.heap.size 151 wy v' (ps.length+1) (prs ps++encP p)) (hg2:(wx.alloc (.cells (encP p).toArray 151)).grownBy wy v.ownBlock):PrI G w wy v1 v2 v3 v4 v' (ps++[p]) (qs++[p]):=by
 have hlt:=h.map.lt
 have hs1:=hg.size
 have hs2:=hg2.size
 have hs3:(wx.alloc (.cells (encP p).toArray 151)).heap.size=wx.heap.size+1:=alloc_size _ _
 have hO:=PM.grown hg
 have hlo:Own 2 (w.heap.size+1) wr.heap.size 151 wr v ps.length (prs ps):=h.list
 have hne:v.ownBlock≠some (w.heap.size+2):=fun e=>by
  obtain ⟨D,⟨es,c,hb,_⟩,_⟩:=h.map
  rcases hlo.1.2 with ⟨rfl,_⟩|⟨g,cap,cur,rfl,_,hg',_⟩
  ·cases e
  ·simp only [Value.ownBlock,Option.some.injEq] at e
   subst e
   rw [hb] at hg'
   cases hg'
 have hlx:Own 2 (w.heap.size+1) wr.heap.size 151 wx v ps.length (prs ps):=⟨hlo.1.kept hg (by
  cases hb:v.ownBlock with
  | none=>exact .inl rfl
  | some k=>right;rw [←hb];exact hne),hlo.2⟩
 have hla:=hlx.alloc (.cells (encP p).toArray 151)
 have hO2:=grown_outside hg2 hla.lt
 have ha:=al_below wx (.cells (encP p).toArray 151)
 refine ⟨?_,?_,?_,?_,?_,?_⟩
 ·exact ((h.kt.outside hO (by omega)).below ha (by have:=h.kt.lt;omega)).outside hO2 (by omega)
 ·show Own 2 _ _ _ _ _ (ps++[p]).length (prs (ps++[p]))
  rw [List.length_append,prs_append]
  simpa [prs] using ho
 ·exact (hm.below ha hm.lt).far hla hg2
 ·exact Below.outside ((Below.outside h.below hO (by omega) h.below.size).trans (ha.mono (by have:=h.below.size;omega))) hO2 (by omega) (by have:=h.below.size;omega)
 ·intro q hq
  rcases List.mem_append.1 hq with hq|hq
  ·exact h.fit q hq
  ·simp only [List.mem_singleton] at hq;subst hq;exact ⟨hp,hgp⟩
 ·rw [h.same]
theorem info_pair:(Tryz.prog.info? 151).map (fun i=>(i.zero,i.size,i.bytes))=some (some (.agg #[.int .i64 0,.int .i64 0]),2,16):=by kernel_rfl
theorem PrI.own5 {G:Nat × Nat→Prop} {w wr wx:World} {v1 v2 v3 v4 v:Value} {ps qs:List (Nat × Nat)} (h:PrI G w wr v1 v2 v3 v4 v ps qs) (hg:wr.grownBy wx (some (w.heap.size+2))):Own 2 (w.heap.size+1) wr.heap.size 151 wx v ps.length (prs ps):=by
 have hlo:Own 2 (w.heap.size+1) wr.heap.size 151 wr v ps.length (prs ps):=h.list
 refine ⟨hlo.1.kept hg ?_,hlo.2⟩
 cases hb:v.ownBlock with
 | none=>exact .inl rfl
 | some k=>
  right
  intro e
  obtain ⟨D,⟨es,c,hb2,_⟩,_⟩:=h.map
  rcases hlo.1.2 with ⟨rfl,_⟩|⟨g,cap,cur,rfl,_,hg',_⟩
  ·cases hb
  ·simp only [Value.ownBlock,Option.some.injEq] at hb e
   rw [hb,e,hb2] at hg'
   cases hg'
theorem PrI.len {G:Nat × Nat→Prop} {w wr:World} {v1 v2 v3 v4 v:Value} {ps qs:List (Nat × Nat)} (h:PrI G w wr v1 v2 v3 v4 v ps qs):qs.length≤ps.length:=by rw [h.same];exact le_ _
theorem prow_pre (a b:Au) (o:List (Nat × Nat)) (p:Nat × Nat):∀ k,∃ r,prow a b o p k=o++r
 | 0=>⟨[],by simp [prow]⟩
 | k+1=>by
  obtain ⟨r,h⟩:=prow_pre a b o p k
  unfold prow
  split
  ·exact ⟨r,h⟩
  ·exact ⟨r++[nextP a b p k],by rw [h,List.append_assoc]⟩
def PgI (a b:Au) (k:Nat) (o:List (Nat × Nat)):Prop:=pairGo a b (102-k) k o=pairsA a b
theorem PgI.next {a b:Au} {k:Nat} {o:List (Nat × Nat)} (h:PgI a b k o) (hk:k<o.length) (h100:k≤100) (hl:(prow a b o (o.getD k (0,0)) 12).length≤100):PgI a b (k+1) (prow a b o (o.getD k (0,0)) 12):=by
 unfold PgI at h ⊢
 rw [←h,show 102-k=(102-(k+1))+1 by omega,pairGo,if_pos hk,if_neg (by omega)]
theorem PgI.many {a b:Au} {k:Nat} {o:List (Nat × Nat)} (h:PgI a b k o) (hk:k<o.length) (h100:k≤100) (hl:100<(prow a b o (o.getD k (0,0)) 12).length):pairsA a b=none:=by
 unfold PgI at h
 rw [←h,show 102-k=(102-(k+1))+1 by omega,pairGo,if_pos hk,if_pos hl]
theorem PgI.done {a b:Au} {o:List (Nat × Nat)} (h:PgI a b o.length o) (h100:o.length≤100):pairsA a b=some o:=by
 unfold PgI at h
 rw [←h,show 102-o.length=(102-(o.length+1))+1 by omega,pairGo,if_neg (by omega)]
theorem prow_in {a b:Au} {o:List (Nat × Nat)} {p:Nat × Nat} {k:Nat} (h:nextP a b p k∈prow a b o p k):prow a b o p (k+1)=prow a b o p k:=by rw [prow,if_pos h]
theorem prow_out {a b:Au} {o:List (Nat × Nat)} {p:Nat × Nat} {k:Nat} (h:nextP a b p k ∉ prow a b o p k):prow a b o p (k+1)=prow a b o p k++[nextP a b p k]:=by rw [prow,if_neg h]
def GotP (wm:World) (X Y pv:Value) (wx:World):Prop:=∃ gp:Nat,pv=.pointer (some ⟨gp,0,none⟩)∧Hid (wm.heap.size≤gp∧Blk gp (.cells #[X,Y] 151 (0,0)) wx∧Below wm.heap.size wm wx)
theorem GotP.a {wm w1:World} {X Y:Value} (h:Below wm.heap.size wm w1):GotP wm X Y (.pointer (some ⟨w1.heap.size,0,none⟩)) (w1.alloc (.cells #[X,Y] 151)):=
 ⟨_,rfl,H_ ⟨h.size,Blk.new w1 _,h.trans ((al_below w1 _).mono h.size)⟩⟩
theorem GotP.b {wm w1:World} {X Y x0 y0:Value} (hk:Blk wm.heap.size (.cells #[x0,y0] 151 (0,0)) w1) (h:Below wm.heap.size wm w1):GotP wm X Y (.pointer (some ⟨wm.heap.size,0,none⟩)) ((w1.setCell ⟨wm.heap.size,0,none⟩ X).setCell ⟨wm.heap.size,1,none⟩ Y):=
 ⟨_,rfl,H_ ⟨le_ _,set2_blk hk X Y,Below.outside h (set2_out _ _ _ _) (le_ _) h.size⟩⟩
theorem pairs_any (lo hi:Nat) (v1 v2 v3 v4:Value) (a b:Au) (w:World) (h:TgS lo hi w v1 v2 v3 v4 a b) (hh:hi≤w.heap.size) (ha:AuOk a) (hb:AuOk b) (G:Nat × Nat→Prop) (hG1:G (1,1)) (hGn:∀ p,G p→∀ m,m<12→G (nextP a b p m)) :
  Calls Tryz.prog 138 #[.agg #[v1,v2,v3,v4]] w (RetV fun r w'=>∃ v ok ps,r=.tuple #[v,.bool ok]∧OwnP w.heap.size w'.heap.size w' v ps∧ps.length≤112∧(∀ p∈ps,G p)∧pairsA a b=(if ok then some ps else none)∧(ok=false→ps=[])∧Below w.heap.size w w'):=by
 obtain ⟨w0,hw0⟩:∃ w0,w0=w.alloc (.cells #[v1,v2,v3,v4] 143):=⟨_,rfl⟩
 obtain ⟨w1,hw1⟩:∃ w1,w1=w0.alloc (.cells #[.int .i64 1,.int .i64 1] 151):=⟨_,rfl⟩
 obtain ⟨w2,hw2⟩:∃ w2,w2=w1.alloc (.map #[] 0):=⟨_,rfl⟩
 have b0:Below w.heap.size w w0:=by rw [hw0];exact al_below _ _
 have b1:Below w0.heap.size w0 w1:=by rw [hw1];exact al_below _ _
 have b2:Below w1.heap.size w1 w2:=by rw [hw2];exact al_below _ _
 have k0:Blk w.heap.size (.cells #[v1,v2,v3,v4] 143) w0:=by rw [hw0];exact Blk.new w _
 have s0:w0.heap.size=w.heap.size+1:=by rw [hw0];simp
 have s1:w1.heap.size=w.heap.size+2:=by rw [hw1];simp;omega
 have s2:w2.heap.size=w.heap.size+3:=by rw [hw2];simp;omega
 have k1:Own 2 (w.heap.size+1) (w.heap.size+2) 151 w1 (.slice (some ⟨w.heap.size+1,0,none⟩) 1 1) 1 (prs [(1,1)]):=by
  have:=Own.lit 2 151 w0 (prs [(1,1)]) 1 (by omega) rfl
  rw [s0] at this
  rw [hw1]
  exact this
 have k2:PM w2 (w.heap.size+2) []:=by rw [←s1,hw2];exact PM.made w1
 obtain ⟨w3,hr3,hp3,hg3⟩:=k2.put (p:=(1,1)) ⟨by decide,by decide⟩ (by simp)
 have hO3:=PM.grown hg3
 have s3:=hg3.size
 have HR3:=H_ hr3
 have HI:Hid (PrI G w w3 v1 v2 v3 v4 (.slice (some ⟨w.heap.size+1,0,none⟩) 1 1) [(1,1)] [(1,1)]):=H_ ⟨((k0.below b1 k0.lt).below b2 (by omega)).outside hO3 (by omega),((k1.below b2 (by omega)).outside hO3 (by omega)).wide2 (le_ _) (by omega),hp3,Below.outside ((b0.trans (b1.mono (by omega))).trans (b2.mono (by omega))) hO3 (by omega) (by omega),by simp [hG1],rfl⟩
 have HGN:=H_ hGn
 have HT:=H_ h
 have HAO:=H_ ha
 have HBO:=H_ hb
 have HK:=H_ (show w2.cell? ⟨w.heap.size+1,0,none⟩=some (.int .i64 1)∧w2.cell? ⟨w.heap.size+1,1,none⟩=some (.int .i64 1) from by
  have hk:Blk (w.heap.size+1) (.cells #[.int .i64 1,.int .i64 1] 151) w2:=by
   rw [←s0]
   exact Blk.below (by rw [hw1];exact Blk.new w0 _) b2 (by omega)
  exact ⟨hk.cell 0,hk.cell 1⟩)
 clear h ha hb hG1 hGn b0 b1 b2 k0 k1 k2 hp3 hg3 hO3 hr3
 go_enter Tryz.func138,Tryz.ntmps138
 go_upto_region 2 with fail
 simp only [←hw0,←hw1]
 have hmk:(Instr.makeMap 191 none).run Tryz.prog w1=.ok (.map (some (w.heap.size+2))) w2:=by rw [←s1,hw2];rfl
 have k2a:=HK.out.1
 have k2b:=HK.out.2
 have hr3:(Instr.mapUpdate 191 (.map (some (w.heap.size+2))) (.agg #[.int .i64 1,.int .i64 1]) (.bool true)).run Tryz.prog w2=.ok () w3:=HR3.out
 clear hw0 hw1 hw2 HR3
 go_wp2
 clear hmk k2a k2b hr3 HK
 go_loopw [4,6] (fun v i wr=>∃ (k:Nat) (ps qs:List (Nat × Nat)),k≤ps.length∧ps.length≤100∧i=.int .i64 k∧Hid (PrI G w wr v1 v2 v3 v4 v ps qs)∧Hid (PgI a b k ps)) (fun _ i _=>101-(intOf i).toNat)
 case atStart=>exact ⟨0,_,_,by simp,by simp,rfl,HI,H_ rfl⟩
 case round=>
  rename World=>wk
  clear HI
  obtain ⟨k,ps,qs,hk,h100,rfl,HI,HPG⟩:=hrel
  obtain ⟨la,lc,rfl⟩:=Own.shape (show Own 2 _ _ _ _ _ ps.length _ from HI.out.list)
  by_cases hlt:k<ps.length
  ·have hdk:decide ((k:Int)<(ps.length:Int))=true:=by simp;omega
   obtain ⟨o,ho_⟩:∃ o,o=ps:=⟨_,rfl⟩
   have HOE:=H_ ho_
   have hk100:k≤100:=by omega
   rw [←ho_] at HPG
   have HKO:=H_ (show k<o.length from by rw [ho_];exact hlt)
   clear ho_
   go_wp2
   go_loopw [4,22] (fun v i wr=>∃ (m:Nat) (ps qs:List (Nat × Nat)),m≤12∧k<ps.length∧ps.length≤100+m∧i=.int .i64 m∧Hid (PrI G w wr v1 v2 v3 v4 v ps qs)∧Hid (ps=prow a b o (o.getD k (0,0)) m)) (fun _ i _=>12-(intOf i).toNat)
   case atStart=>exact ⟨0,ps,qs,by omega,hlt,by omega,rfl,HI,H_ HOE.out.symm⟩
   case round=>
    rename World=>wm
    clear HI hdk HOE
    obtain ⟨m,ps,qs,hm,hkp,h112,rfl,HI,HPR⟩:=hrel
    obtain ⟨la,lc,rfl⟩:=Own.shape (show Own 2 _ _ _ _ _ ps.length _ from HI.out.list)
    by_cases hltm:m<12
    ·have hdm:decide ((m:Int)<12)=true:=by simp;omega
     obtain ⟨g4,rfl,_,_,hg4,c40,c41⟩:=HI.out.list.get k hkp
     obtain ⟨p,hp⟩:∃ p,p=ps[k]:=⟨_,rfl⟩
     have hfp:FitP p:=(HI.out.fit p (by rw [hp];exact List.getElem_mem _)).1
     have HGP:=H_ (HI.out.fit p (by rw [hp];exact List.getElem_mem _)).2
     rw [←hp] at c40 c41
     have HPK:=H_ (show o.getD k (0,0)=p from by
      obtain ⟨r,hr⟩:=prow_pre a b o (o.getD k (0,0)) m
      have hko:=HKO.out
      rw [hp,List.getD,List.getElem?_eq_getElem hko,Option.getD_some,List.getElem_of_eq (HPR.out.trans hr),List.getElem_append_left hko])
     clear hp
     obtain ⟨x,y⟩:=p
     have hx:=hfp.1
     have hy:=hfp.2
     simp only at c40 c41 hx hy
     have HTM:=H_ (HT.out.below HI.out.below hh)
     have hlow:=HI.out.below.size
     have hmm:wm.drew.heap.size=wm.heap.size:=rfl
     have hma:(wm.alloc (.cells #[.int .i64 0,.int .i64 0] 151)).drew.heap.size=wm.heap.size+1:=alloc_size _ _
     have HNX:Hid (∀ w':World,Below wm.heap.size wm w'→Calls Tryz.prog 140 #[.agg #[v1,v2,v3,v4],.agg #[.int .i64 (x:Nat),.int .i64 (y:Nat)],.int .i64 (m:Nat)] w' fun e w''=>e=.returned (.agg #[(.int .i64 ((stepU a x m:Nat):Int)),(.int .i64 ((stepU b y m:Nat):Int))])∧Below w'.heap.size w' w''):=H_ fun w' hb'=>next_any lo hi v1 v2 v3 v4 a b x y m w' (HTM.out.below hb' (by omega)) (by have:=hb'.size;omega) HAO.out HBO.out hx hy hltm
     have hsm1:stepU a x m<1024:=HAO.out.step x hltm
     have hsm2:stepU b y m<1024:=HBO.out.step y hltm
     go_upto_region 9 with fail
     go_cut [8] (fun pv wx=>GotP wm (.int .i64 ((stepU a x m:Nat):Int)) (.int .i64 ((stepU b y m:Nat):Int)) pv wx)
     case first=>
      have hbd:Below wm.heap.size wm wm.drew:=Below.drew (B_ _ _)
      have hba:Below wm.heap.size wm (wm.alloc (.cells #[.int .i64 0,.int .i64 0] 151)).drew:=Below.drew (al_below wm _)
      have t0:=HI.out.kt.drew.cell 0
      have t1:=HI.out.kt.drew.cell 1
      have t2:=HI.out.kt.drew.cell 2
      have t3:=HI.out.kt.drew.cell 3
      have t4:wm.drew.cell? ⟨g4,k*2,none⟩=some (.int .i64 (x:Nat)):=c40
      have t5:wm.drew.cell? ⟨g4,k*2+1,none⟩=some (.int .i64 (y:Nat)):=c41
      have u0:(wm.alloc (.cells #[.int .i64 0,.int .i64 0] 151)).drew.cell? ⟨w.heap.size,0,none⟩=_:=HI.out.kt.al.cell 0
      have u1:(wm.alloc (.cells #[.int .i64 0,.int .i64 0] 151)).drew.cell? ⟨w.heap.size,1,none⟩=_:=HI.out.kt.al.cell 1
      have u2:(wm.alloc (.cells #[.int .i64 0,.int .i64 0] 151)).drew.cell? ⟨w.heap.size,2,none⟩=_:=HI.out.kt.al.cell 2
      have u3:(wm.alloc (.cells #[.int .i64 0,.int .i64 0] 151)).drew.cell? ⟨w.heap.size,3,none⟩=_:=HI.out.kt.al.cell 3
      have u4:(wm.alloc (.cells #[.int .i64 0,.int .i64 0] 151)).drew.cell? ⟨g4,k*2,none⟩=some (.int .i64 (x:Nat)):=(hba.cell (p:=⟨g4,k*2,none⟩) hg4).trans c40
      have u5:(wm.alloc (.cells #[.int .i64 0,.int .i64 0] 151)).drew.cell? ⟨g4,k*2+1,none⟩=some (.int .i64 (y:Nat)):=(hba.cell (p:=⟨g4,k*2+1,none⟩) hg4).trans c41
      have HA:=H_ hba
      clear hba
      go_region_law (first
       | (go_simp;go_at_call 140;refine (HNX.out wm.drew hbd).mono ?_;rintro e1 w1 ⟨rfl,hb1_⟩;(have hb1:Below wm.heap.size wm w1:=hbd.trans (hb1_.mono (le_ _)));(have hz1:=hb1.size);(have HB1:=H_ hb1);(have kz:=Blk.new w1 (.cells #[.int .i64 0,.int .i64 0] 151));(have z0:=kz.cell 0);(have z1:=kz.cell 1);(have z2:=kz.free 0);(have z3:=kz.free 1);clear hb1_ hb1 kz)
       | (go_simp;go_at_call 140;refine (HNX.out ((wm.alloc (.cells #[.int .i64 0,.int .i64 0] 151)).drew) HA.out).mono ?_;rintro e1 w1 ⟨rfl,hb1_⟩;(have hz1:=hb1_.size);(have kz:Blk wm.heap.size (.cells #[.int .i64 0,.int .i64 0] 151) w1:=(Blk.new wm (.cells #[.int .i64 0,.int .i64 0] 151)).drew.below hb1_ (by rw [hma];exact Nat.lt_succ_self _));(have z0:=kz.cell 0);(have z1:=kz.cell 1);(have z2:=kz.free 0);(have z3:=kz.free 1);(have HB2:=H_ (And.intro kz (HA.out.trans (hb1_.mono (by omega)))));clear hb1_ kz))
      all_goals (
       go_wp2_with fail
       go_meet
       first
        | exact GotP.a HB1.out
        | exact GotP.b HB2.out.1 HB2.out.2)
     case rest=>
      rename World=>wc
      obtain ⟨gp,rfl,HG⟩:=hcut
      have HIC:=H_ (HI.out.go HG.out.2.2)
      have hfit:FitP (stepU a x m,stepU b y m):=⟨by show stepU a x m<1048576;omega,by show stepU b y m<1048576;omega⟩
      have hlk:(Instr.lookup 191 (.map (some (w.heap.size+2))) (.agg #[.int .i64 ((stepU a x m:Nat):Int),.int .i64 ((stepU b y m:Nat):Int)]) false).run Tryz.prog wc=.ok (.bool (decide ((stepU a x m,stepU b y m)∈qs))) wc:=HIC.out.map.look hfit
      have kp:=HG.out.2.1
      have c0:=kp.cell 0
      have c1:=kp.cell 1
      have hgp:=kp.lt
      have hgm:=HI.out.map.lt
      have hgp2:=HG.out.1
      have hqs:=HIC.out.len
      have HSM:=H_ HIC.out.same
      cases hmem:decide ((stepU a x m,stepU b y m)∈qs)
      ·obtain ⟨w5,hr5_,hp5,hg5⟩:=HIC.out.map.put hfit (by omega)
       have hr5:(Instr.mapUpdate 191 (.map (some (w.heap.size+2))) (.agg #[.int .i64 ((stepU a x m:Nat):Int),.int .i64 ((stepU b y m:Nat):Int)]) (.bool true)).run Tryz.prog wc=.ok () w5:=hr5_
       have HP5:=H_ (And.intro hp5 hg5)
       have kp5:=kp.outside (PM.grown hg5) (by omega)
       have d0:=kp5.cell 0
       have d1:=kp5.cell 1
       have hs5:=hg5.size
       have hs0:=HIC.out.below.size
       have HO5:=H_ (HIC.out.own5 hg5)
       have HPN:=H_ (show ps++[(stepU a x m,stepU b y m)]=prow a b o (o.getD k (0,0)) (m+1) from by
        have h1:nextP a b (o.getD k (0,0)) m=(stepU a x m,stepU b y m):=by rw [HPK.out];rfl
        rw [prow_out (by rw [h1,←HPR.out,←HSM.out];simpa using hmem),h1,←HPR.out])
       rw [hmem] at hlk
       clear hmem hp5 hg5 hr5_ kp kp5 HG HI
       go_wp2_with (at_builtin;go_loud (refine wpList_app_lit_at w5 rfl _ _ 146 rfl 151 (.agg #[.int .i64 0,.int .i64 0]) 2 16 Tryz.underlying146 info_pair rfl (by decide) (by decide) rfl HO5.out 1 [.int .i64 ((stepU a x m:Nat):Int),.int .i64 ((stepU b y m:Nat):Int)] rfl rfl (by intro u hu;simp only [List.mem_cons,List.not_mem_nil,or_false] at hu;rcases hu with rfl | rfl<;>rfl) rfl ?c1 ?c2 ?_))
       case c1=>omega
       case c2=>omega
       intro v6 w6 ho6 hg6 _ _
       have HI6:=H_ (PrI.push HIC.out hfit (HGN.out _ HGP.out m hltm) HP5.out.1 HP5.out.2 ho6 hg6)
       obtain ⟨la6,lc6,rfl⟩:=Own.shape ho6
       clear ho6 hg6
       go_wp2
       go_roundw
       case rel=>exact ⟨m+1,_,_,by omega,by simp;omega,by simp;omega,by go_num,HI6,HPN⟩
       case measure=>simp [intOf];omega
      ·have HPN:=H_ (show ps=prow a b o (o.getD k (0,0)) (m+1) from by
        have h1:nextP a b (o.getD k (0,0)) m=(stepU a x m,stepU b y m):=by rw [HPK.out];rfl
        rw [prow_in (by rw [h1,←HPR.out,←HSM.out];simpa using hmem),←HPR.out])
       rw [hmem] at hlk
       clear hmem kp HG HI
       go_wp2
       go_roundw
       case rel=>exact ⟨m+1,ps,qs,by omega,hkp,by omega,by go_num,HIC,HPN⟩
       case measure=>simp [intOf];omega
    ·obtain rfl:m=12:=by omega
     by_cases h1:100<ps.length
     ·have HNO:=H_ (HPG.out.many HKO.out hk100 (by rw [←HPR.out];exact h1))
      have hd1:decide ((100:Int)<(ps.length:Int))=true:=by simp;omega
      go_wp2
      refine bodyPost_ret (v:=.tuple #[.slice none 0 0,.bool false]) (by simp [results,Tryz.results138,go_sem]) rfl ?_
      exact RetV.mk _ rfl ⟨_,_,[],rfl,Own.nil _ _ _ _ _,by simp,(fun p hp=>by cases hp),HNO.out,(fun _=>rfl),HI.out.below⟩
     ·have HNX:=H_ (show PgI a b (k+1) ps from by
       have h:=HPG.out.next HKO.out hk100 (by rw [←HPR.out];omega)
       rwa [←HPR.out] at h)
      have hd1:decide ((100:Int)<(ps.length:Int))=false:=by simp;omega
      go_wp2
      go_roundw
      case rel=>exact ⟨k+1,ps,qs,by omega,by omega,by go_num,HI,HNX⟩
      case measure=>simp [intOf];omega
  ·obtain rfl:k=ps.length:=by omega
   go_wp2
   refine bodyPost_ret (v:=.tuple #[.slice la ps.length lc,.bool true]) (by simp [results,Tryz.results138,go_sem]) rfl ?_
   exact RetV.mk _ rfl ⟨_,_,ps,rfl,HI.out.list.lower (Nat.le_succ _) (le_ _),by omega,(fun p hp=>(HI.out.fit p hp).2),HPG.out.done h100,(fun h=>by cases h),HI.out.below⟩
def RowOk (e f r:List Int):Prop:=∃ x y:Nat,r=[(x:Int),(y:Int)]∧x<2 ^ (autV e).ends.length∧y<2 ^ (autV f).ends.length
def prL (ps:List (Nat × Nat)):List (List Int):=ps.map fun p=>[(p.1:Int),(p.2:Int)]
noncomputable def pairsR (e f:List Int):List (List Int):=prL ((pairsV e f).getD [])
theorem AuS.shape {lo hi:Nat} {w:World} {v1 v2:Value} {a:Au} (h:AuS lo hi w (.agg #[v1,v2]) a):(∃ a1 n1 c1,v1=.slice a1 n1 c1)∧∃ a2 n2 c2,v2=.slice a2 n2 c2:=by
 obtain ⟨va,vb,e,h1,h2⟩:=h
 have e':=congrArg (fun v=>match v with | .agg cs=>cs.toList | _=>[]) e
 simp at e'
 obtain ⟨rfl,rfl⟩:=e'
 obtain ⟨a1,c1,r1,_⟩:=Sl.shape h1
 obtain ⟨a2,c2,r2,_⟩:=h2.shape
 exact ⟨⟨_,_,_,r1⟩,⟨_,_,_,r2⟩⟩
theorem pairsOf_any (lo hi lo' hi':Nat) (ve vf:Value) (e f:List Int) (w:World) (hx:SlI lo hi w ve e) (hy:SlI lo' hi' w vf f) (hh:hi≤w.heap.size) (hh':hi'≤w.heap.size) (hm:e.length≤1048576) (hm':f.length≤1048576) :
  Calls Tryz.prog 136 #[ve,vf] w (RetV fun v w'=>(∃ ss,LLs w.heap.size w'.heap.size w' v ss (pairsR e f)∧ss.length≤112∧∀ r∈pairsR e f,RowOk e f r)∧Below w.heap.size w w'):=by
 have HX:=H_ hx
 have HY:=H_ hy
 clear hx hy
 go_enter Tryz.func136,Tryz.ntmps136
 go_wp2_with fail
 refine (autosOf_any _ _ _ _ _ _ e f w HX.out HY.out hh hh' hm hm').mono ?_
 rintro e1 w1 ⟨r,rfl,v1,v2,v3,v4,ok,rfl,ha⟩
 have hz1:=ha.below.size
 have HA:=H_ ha
 clear ha
 obtain ⟨⟨a1,n1,d1,rfl⟩,a2,n2,d2,rfl⟩:=HA.out.tg.one.shape
 obtain ⟨⟨a3,n3,d3,rfl⟩,a4,n4,d4,rfl⟩:=HA.out.tg.two.shape
 obtain ⟨w2,hw2⟩:∃ w2,w2=w1.alloc (.cells #[.slice a1 n1 d1,.slice a2 n2 d2,.slice a3 n3 d3,.slice a4 n4 d4] 143):=⟨_,rfl⟩
 obtain ⟨hb2,KT,hs2⟩:=box_facts2 hw2
 have c0:=KT.cell 0
 have c1:=KT.cell 1
 have c2:=KT.cell 2
 have c3:=KT.cell 3
 have HB2:=H_ (HA.out.below.trans (hb2.mono hz1))
 have HT2:=H_ ((HA.out.tg.below hb2 (le_ _)))
 clear hb2 KT
 cases ok
 ·have HE0:=H_ (show pairsR e f=[] from by unfold pairsR pairsV;rw [if_pos (HA.out.shut rfl)];rfl)
  go_wp2
  go_ret
  rw [←hw2]
  rw [HE0.out]
  exact RetV.mk _ rfl ⟨⟨[],LLs.nil _ _ _,by simp,fun r hr=>by cases hr⟩,HB2.out⟩
 ·have HVA:=H_ (show pairsV e f=pairsA (autV e) (autV f) from by unfold pairsV;rw [if_neg (fun h=>h.elim (HA.out.open_ rfl).1 (HA.out.open_ rfl).2)])
  go_wp2_with fail
  simp only [←hw2]
  clear hw2
  refine (pairs_any _ _ _ _ _ _ _ _ w2 HT2.out (by omega) (autV_ok e) (autV_ok f) (fun p=>p.1<2 ^ (autV e).ends.length∧p.2<2 ^ (autV f).ends.length) ⟨Nat.one_lt_two_pow (fun h=>(HA.out.open_ rfl).1 (List.eq_nil_of_length_eq_zero h)),Nat.one_lt_two_pow (fun h=>(HA.out.open_ rfl).2 (List.eq_nil_of_length_eq_zero h))⟩ (fun p _ m hm=>⟨autV_top e _ m hm,autV_top f _ m hm⟩)).mono ?_
  rintro e3 w3 ⟨r,rfl,v,ok,ps,rfl,hp,h112,hgd,hpa,hpz,hb3⟩
  rw [←HVA.out] at hpa
  have HRT:Hid (pairsR e f=prL ps):=H_ (by
   rw [pairsR,hpa]
   cases ok
   ·rw [hpz rfl];rfl
   ·rfl)
  clear hpa hpz
  have HGD:=H_ hgd
  have hz3:=hb3.size
  obtain ⟨la,lc,rfl⟩:=Own.shape (show Own 2 _ _ _ _ _ ps.length _ from hp)
  have HP:=H_ hp
  have HB3:=H_ (HB2.out.trans (hb3.mono (by omega)))
  clear hp hb3 hgd
  go_wp2
  go_loopw [9,27] (fun v i wr=>∃ (k:Nat) (ss:List Value) (xss:List (List Int)),k≤ps.length∧ss.length=k∧i=.int .i64 k∧Hid (LLs w3.heap.size wr.heap.size wr v ss xss∧Below w3.heap.size w3 wr∧(∀ r∈xss,RowOk e f r)∧xss=prL (ps.take k))) (fun _ i _=>ps.length-(intOf i).toNat)
  case atStart=>exact ⟨0,[],[],by omega,rfl,rfl,H_ ⟨LLs.nil _ _ _,B_ _ _,(fun r hr=>by cases hr),rfl⟩⟩
  case round=>
   rename World=>wr
   obtain ⟨k,ss,xss,hk,rfl,rfl,HQ⟩:=hrel
   obtain ⟨oa,oc,rfl⟩:=Own.shape HQ.out.1.1
   have hzr:=HQ.out.2.1.size
   by_cases hlt:ss.length<ps.length
   ·obtain ⟨g4,rfl,_,_,hg4,c40,c41⟩:=(HP.out.below HQ.out.2.1 (le_ _)).get ss.length hlt
    have HGR:=HGD.out _ (List.getElem_mem hlt)
    have HTK:=H_ (List.take_succ_eq_append_getElem hlt)
    generalize ps[ss.length]=p at c40 c41 HGR HTK
    obtain ⟨x,y⟩:=p
    simp only at c40 c41 HGR
    have HRO:Hid (RowOk e f [(x:Int),(y:Int)]):=H_ ⟨x,y,rfl,HGR.1,HGR.2⟩
    clear HGR
    obtain ⟨w5,hw5⟩:∃ w5,w5=(wr.alloc (.cells #[.int .i64 (x:Nat),.int .i64 (y:Nat)] 151)).alloc (.cells #[.int .i64 (x:Nat),.int .i64 (y:Nat)] 3):=⟨_,rfl⟩
    have hs5:w5.heap.size=wr.heap.size+1+1:=by rw [hw5];simp
    have HS5:=H_ hs5
    have hb5:Below wr.heap.size wr w5:=by rw [hw5];exact (al_below _ _).trans ((al_below _ _).mono (by simp))
    have hr5:OwnI w3.heap.size w5.heap.size 3 w5 (.slice (some ⟨wr.heap.size+1,0,none⟩) 2 2) [(x:Int),(y:Int)]:=by
     have h:=Own.lit 1 3 (wr.alloc (.cells #[.int .i64 (x:Nat),.int .i64 (y:Nat)] 151)) (ints [(x:Int),(y:Int)]) 2 (by omega) rfl
     rw [alloc_size] at h
     rw [hs5,hw5]
     exact (OwnI.len h rfl).lower (by omega) (by omega)
    have HR5:=H_ (And.intro hr5 (And.intro hb5 ((HQ.out.1.below hb5 (le_ _)).lower (le_ _) hb5.size)))
    have hzz:w3.heap.size≤w5.heap.size:=by omega
    clear hs5 hb5 hr5
    go_wp2_with (at_builtin;go_loud (refine wpList_app_lit_at w5 rfl _ _ 119 rfl 22 (.slice none 0 0) 1 24 Tryz.underlying119 info_ints rfl (by decide) (by decide) rfl HR5.out.2.2.1 1 [.slice (some ⟨wr.heap.size+1,0,none⟩) 2 2] (by rw [HS5.out];rfl) rfl (by intro u hu;simp only [List.mem_singleton] at hu;subst hu;rfl) (by rw [hw5]) ?c1 ?c2 ?_))
    case c1=>omega
    case c2=>exact hzz
    intro v6 w6 ho6 hg6 _ _
    rw [←hw5] at hg6
    have HQ6:=H_ (LLs.lit HR5.out.2.2 HR5.out.1 ho6 hg6)
    have HB6:=H_ (Below.outside (HQ.out.2.1.trans (HR5.out.2.1.mono hzr)) HQ6.out.2 (le_ _) hzz)
    obtain ⟨oa6,oc6,rfl⟩:=Own.shape ho6
    clear ho6 hg6 hw5
    go_wp2
    go_roundw
    case rel=>exact ⟨ss.length+1,_,_,by omega,by simp,by go_num,H_ ⟨HQ6.out.1,HB6.out,(fun r hr=>by
     rcases List.mem_append.1 hr with hr|hr
     ·exact HQ.out.2.2.1 r hr
     ·simp only [List.mem_singleton] at hr
      subst hr
      exact HRO.out),by rw [HQ.out.2.2.2,HTK.out];simp [prL]⟩⟩
    case measure=>simp [intOf];omega
   ·have hkl:ss.length=ps.length:=by omega
    have HL:=H_ hkl
    clear hkl
    have hd:decide ((ss.length:Int)<(ps.length:Int))=false:=by simp;omega
    go_wp2
    go_ret
    have hxr:xss=pairsR e f:=by rw [HQ.out.2.2.2,HRT.out,HL.out,List.take_length]
    rw [←hxr]
    exact RetV.mk _ rfl ⟨⟨ss,HQ.out.1.lower (by omega) (le_ _),by omega,HQ.out.2.2.1⟩,HB3.out.trans (HQ.out.2.1.mono (by omega))⟩
def hasB (n:Nat) (x:Int):Bool:=decide (0≤x)&&decide (x<2 ^ n)
theorem hasSet_any (lo hi:Nat) (v:Value) (a:Au) (x:Int) (w:World) (h:AuS lo hi w v a) (hh:hi≤w.heap.size) (ho:AuOk a) :
  Calls Tryz.prog 179 #[v,.int .i64 x] w fun e w'=>e=.returned (.bool (hasB a.ends.length x))∧Below w.heap.size w w':=by
 obtain ⟨va,vb,rfl,hE,hN⟩:=h
 obtain ⟨w0,hw0⟩:∃ w0,w0=w.alloc (.cells #[va,vb] 123):=⟨_,rfl⟩
 have HB:Hid (Below w.heap.size w w0):=by rw [hw0];exact H_ (al_below _ _)
 have K1:Blk w.heap.size (.cells #[va,vb] 123) w0:=by rw [hw0];exact Blk.new w _
 have c0:=K1.cell 0
 obtain ⟨ea,ec,rfl,_,_⟩:=Sl.shape hE
 have h10:=ho.le
 obtain ⟨n,hn⟩:∃ n,n=a.ends.length:=⟨_,rfl⟩
 rw [←hn] at c0 hw0 h10 ⊢
 have h2:2 ^ n≤2 ^ 10:=Nat.pow_le_pow_right (by omega) h10
 have hw2:IntKind.i64.wrap (2 ^ n)=((2 ^ n:Nat):Int):=by
  have:=wrap_i64_nat (2 ^ n) (by omega)
  rw [←this]
  push_cast
  rfl
 have HW:=H_ hw2
 have HQ:=H_ (show ((2 ^ n:Nat):Int)=2 ^ n by push_cast;rfl)
 have hnI:(n:Int)≤10:=by omega
 clear hE hN ho K1 hn hw2 h2
 by_cases h1:0≤x
 ·have hd:decide ((0:Int)≤x)=true:=by simp;omega
  go_enter Tryz.func179,Tryz.ntmps179
  go_wp2
  go_ret
  rw [←hw0]
  refine ⟨?_,HB.out⟩
  have hx:hasB n x=decide (x<wrap64 (2 ^ n)):=by
   unfold hasB
   rw [hd,Bool.true_and,←IntWalk.i64_left,HW.out,HQ.out]
  rw [hx];rfl
 ·have hd:decide ((0:Int)≤x)=false:=by simp;omega
  go_enter Tryz.func179,Tryz.ntmps179
  go_wp2
  go_ret
  rw [←hw0]
  exact ⟨by unfold hasB;rw [hd];rfl,HB.out⟩
structure OkI (w2 wr:World) (mb:Nat) (qs:List (Nat × Nat)):Prop where
 map:PM wr mb qs
 out:Outside mb (mb+1) w2 wr
theorem OkI.go {w2 wr wx:World} {mb:Nat} {qs:List (Nat × Nat)} (h:OkI w2 wr mb qs) (hb:Below wr.heap.size wr wx):OkI w2 wx mb qs:=
 ⟨h.map.below hb h.map.lt,h.out.trans (Outside.of_below hb (le_ _))⟩
theorem OkI.put {w2 wr wx:World} {mb:Nat} {qs:List (Nat × Nat)} {p:Nat × Nat} (h:OkI w2 wr mb qs) (hm:PM wx mb (qs++[p])) (hg:wr.grownBy wx (some mb)):OkI w2 wx mb (qs++[p]):=
 ⟨hm,h.out.trans (PM.grown hg)⟩
theorem hasB_of {n m:Nat} (h:m<2 ^ n):hasB n (m:Nat)=true:=by
 have h3:((2 ^ n:Nat):Int)=2 ^ n:=by push_cast;rfl
 unfold hasB
 rw [Bool.and_eq_true,decide_eq_true_eq,decide_eq_true_eq]
 omega
noncomputable def okX (e f:List Int) (ps:List (Nat × Nat)):Bool:=!(decide ((autV e).ends=[])||decide ((autV f).ends=[]))&&okP (autV e) (autV f) ps
theorem okX_shut {e f:List Int} {ps:List (Nat × Nat)} (h:(autV e).ends=[]∨(autV f).ends=[]):false=okX e f ps:=by
 unfold okX
 rcases h with h|h<;>simp [h]
theorem okX_no {e f:List Int} {ps:List (Nat × Nat)} (h:¬okP (autV e) (autV f) ps=true):false=okX e f ps:=by
 unfold okX
 cases hk:okP (autV e) (autV f) ps
 ·simp
 ·exact absurd hk h
theorem okX_apart {e f:List Int} {ps:List (Nat × Nat)} {p:Nat × Nat} (hp:p∈ps) (h:apartP (autV e) (autV f) p≠0):false=okX e f ps:=okX_no fun hk=>h ((okP_open hk).2.2 p hp).2.2.1
theorem okX_next {e f:List Int} {ps:List (Nat × Nat)} {p:Nat × Nat} {m:Nat} (hp:p∈ps) (hm:m<12) (h:nextP (autV e) (autV f) p m ∉ ps):false=okX e f ps:=okX_no fun hk=>h (((okP_open hk).2.2 p hp).2.2.2 m hm)
theorem okX_yes {e f:List Int} {ps:List (Nat × Nat)} (ho:(autV e).ends≠[]∧(autV f).ends≠[]) (hl:ps.length≤100) (h1:(1,1)∈ps) (hr:∀ r∈prL ps,RowOk e f r) (h:∀ p∈ps,apartP (autV e) (autV f) p=0∧∀ m,m<12→nextP (autV e) (autV f) p m∈ps):true=okX e f ps:=by
 unfold okX okP
 have h3:(ps.all fun p=>decide (p.1<2 ^ (autV e).ends.length)&&decide (p.2<2 ^ (autV f).ends.length)&&(apartP (autV e) (autV f) p==0)&&(List.range 12).all fun m=>decide (nextP (autV e) (autV f) p m∈ps))=true:=by
  rw [List.all_eq_true]
  intro p hp
  obtain ⟨x,y,e1,hx,hy⟩:=hr [(p.1:Int),(p.2:Int)] (List.mem_map.2 ⟨p,hp,rfl⟩)
  simp only [List.cons.injEq,Int.natCast_inj,and_true] at e1
  obtain ⟨e1,e2⟩:=e1
  rw [←e1] at hx
  rw [←e2] at hy
  obtain ⟨k1,k2⟩:=h p hp
  simp only [Bool.and_eq_true,decide_eq_true_eq,List.all_eq_true,List.mem_range,beq_iff_eq]
  exact ⟨⟨⟨hx,hy⟩,k1⟩,k2⟩
 rw [h3]
 simp [ho.1,ho.2,hl,h1]
theorem prL_len (ps:List (Nat × Nat)):(prL ps).length=ps.length:=by simp [prL]
theorem prL_get {ps:List (Nat × Nat)} {k:Nat} (h:k<(prL ps).length) (h2:k<ps.length):(prL ps)[k]=[(ps[k].1:Int),(ps[k].2:Int)]:=by simp [prL]
theorem pairsOk_any (lo hi lo' hi' lp hp:Nat) (ve vf vp:Value) (e f:List Int) (xss:List (List Int)) (w:World) (hx:SlI lo hi w ve e) (hy:SlI lo' hi' w vf f) (hz:SlLL lp hp w vp xss) (hh:hi≤w.heap.size) (hh':hi'≤w.heap.size) (hhp:hp≤w.heap.size) (hm:e.length≤1048576) (hm':f.length≤1048576) (ps:List (Nat × Nat)) (hxs:xss=prL ps) (hr:∀ r∈xss,RowOk e f r) :
  Calls Tryz.prog 135 #[ve,vf,vp] w (RetB fun b w'=>b=okX e f ps∧Below w.heap.size w w'):=by
 have HX:=H_ hx
 have HR:=H_ hr
 have HXS:=H_ hxs
 have HPL:Hid (xss.length=ps.length):=H_ (by rw [hxs];exact prL_len ps)
 have HY:=H_ hy
 have HZ:=H_ hz
 obtain ⟨pa,pc,rfl,_,_⟩:=hz.shape
 clear hx hy hz hr hxs
 go_enter Tryz.func135,Tryz.ntmps135
 go_wp2_with fail
 refine (autosOf_any _ _ _ _ _ _ e f w HX.out HY.out hh hh' hm hm').mono ?_
 rintro e1 w1 ⟨r,rfl,v1,v2,v3,v4,ok,rfl,ha⟩
 have hz1:=ha.below.size
 have HA:=H_ ha
 clear ha
 obtain ⟨⟨a1,n1,d1,rfl⟩,a2,n2,d2,rfl⟩:=HA.out.tg.one.shape
 obtain ⟨⟨a3,n3,d3,rfl⟩,a4,n4,d4,rfl⟩:=HA.out.tg.two.shape
 obtain ⟨w2,hw2⟩:∃ w2,w2=w1.alloc (.cells #[.slice a1 n1 d1,.slice a2 n2 d2,.slice a3 n3 d3,.slice a4 n4 d4] 143):=⟨_,rfl⟩
 obtain ⟨hb2,KT_,hs2⟩:=box_facts2 hw2
 have KT:=H_ KT_
 have HB2:=H_ (HA.out.below.trans (hb2.mono hz1))
 have HT2:=H_ ((HA.out.tg.below hb2 (le_ _)))
 clear hb2 KT_
 by_cases hlen:xss.length≤100
 ·have hl1:decide ((100:Int)<(xss.length:Int))=false:=by simp;omega
  have HL100:=H_ (show ps.length≤100 from by rw [←HPL.out];exact hlen)
  cases ok
  ·go_wp2
   go_ret
   rw [←hw2]
   exact RetB.mk _ rfl ⟨okX_shut (HA.out.shut rfl),HB2.out⟩
  ·have hmk:(Instr.makeMap 191 none).run Tryz.prog w2=.ok (.map (some w2.heap.size)) (w2.alloc (.map #[] 0)):=rfl
   have HI:Hid (OkI w2 (w2.alloc (.map #[] 0)) (w1.heap.size+1) []):=H_ ⟨by rw [←show w2.heap.size=w1.heap.size+1 by rw [hw2];simp];exact PM.made w2,Outside.of_below (al_below w2 _) (le_ _)⟩
   have hmb:w2.heap.size≤w1.heap.size+1:=by rw [hw2];simp
   rw [hw2] at hmk
   go_wp2
   simp only [←hw2]
   clear hmk hw2
   go_loopw [30] (fun i wr=>∃ (k:Nat) (qs:List (Nat × Nat)),k≤xss.length∧i=.int .i64 k∧Hid (qs.length=k∧OkI w2 wr (w1.heap.size+1) qs∧qs=ps.take k)) (fun i _=>xss.length-(intOf i).toNat)
   case atStart=>exact ⟨0,[],by omega,rfl,H_ ⟨rfl,HI.out,rfl⟩⟩
   case round=>
    rename World=>wr
    clear HI
    obtain ⟨k,qs,hk,rfl,HI⟩:=hrel
    have HKT:=H_ (KT.out.outside HI.out.2.1.out (.inl (by omega)))
    by_cases hlt:k<xss.length
    ·obtain ⟨b5,off5,u5,rfl,_,_,_,c5,hu5⟩:=((HZ.out.below HB2.out hhp).outside HI.out.2.1.out (.inl (by omega))).get k hlt
     obtain ⟨ra,rc,rfl,_,_⟩:=Sl.shape hu5
     obtain ⟨m0,m1,hrow,hm0,hm1⟩:=HR.out _ (List.getElem_mem hlt)
     have HTK:Hid (qs++[(m0,m1)]=ps.take (k+1)):=H_ (by
      have hkp:k<ps.length:=by rw [←HPL.out];exact hlt
      have e:=(List.getElem_of_eq HXS.out hlt).symm.trans hrow
      rw [prL_get _ hkp] at e
      simp only [List.cons.injEq,Int.natCast_inj,and_true] at e
      rw [List.take_succ_eq_append_getElem hkp,HI.out.2.2,←e.1,←e.2])
     have hle1:(2:Nat) ^ (autV e).ends.length≤2 ^ 10:=Nat.pow_le_pow_right (by omega) (autV_ok e).le
     have hle2:(2:Nat) ^ (autV f).ends.length≤2 ^ 10:=Nat.pow_le_pow_right (by omega) (autV_ok f).le
     have HB1:=H_ (hasB_of hm0)
     have HB2':=H_ (hasB_of hm1)
     have hf0:m0<1048576:=by omega
     have hf1:m1<1048576:=by omega
     rw [hrow] at hu5 c5
     obtain ⟨b6,off6,rfl,_,_,hb6,r0⟩:=SlI.get hu5 0 (by simp)
     obtain ⟨b7,off7,e7,_,_,_,r1⟩:=SlI.get hu5 1 (by simp)
     injection e7 with e7
     injection e7 with e7 e8 _
     subst e7 e8
     simp only [Nat.add_zero,List.getElem_cons_zero] at r0
     simp only [List.getElem_cons_succ,List.getElem_cons_zero] at r1
     simp only [List.length_cons,List.length_nil,Nat.zero_add,Nat.reduceAdd] at c5
     clear hu5 hrow hm0 hm1 hle1 hle2
     have HTR:=H_ (HT2.out.outside HI.out.2.1.out (.inl (by omega)))
     have hzr:=HI.out.2.1.out.size
     have HW:=H_ (Below.outside HB2.out HI.out.2.1.out (by omega) (by omega))
     have hd:Below wr.heap.size wr wr.drew:=Below.drew (B_ _ _)
     have HS1:Hid (∀ w',Below wr.heap.size wr w'→Calls Tryz.prog 179 #[.agg #[.slice a1 n1 d1,.slice a2 n2 d2],.int .i64 (m0:Nat)] w' fun e' w''=>e'=.returned (.bool true)∧Below w'.heap.size w' w''):=H_ fun w' hb'=>(hasSet_any _ _ _ _ (m0:Nat) w' (HTR.out.one.below hb' (by omega)) (by have:=hb'.size;omega) (autV_ok e)).mono (by rw [HB1.out];exact fun e' w'' h=>h)
     have HS2:Hid (∀ w',Below wr.heap.size wr w'→Calls Tryz.prog 179 #[.agg #[.slice a3 n3 d3,.slice a4 n4 d4],.int .i64 (m1:Nat)] w' fun e' w''=>e'=.returned (.bool true)∧Below w'.heap.size w' w''):=H_ fun w' hb'=>(hasSet_any _ _ _ _ (m1:Nat) w' (HTR.out.two.below hb' (by omega)) (by have:=hb'.size;omega) (autV_ok f)).mono (by rw [HB2'.out];exact fun e' w'' h=>h)
     have HF:Hid (∀ w',Below wr.heap.size wr w'→w'.cell? ⟨w1.heap.size,0,none⟩=some (.slice a1 n1 d1)∧w'.cell? ⟨w1.heap.size,1,none⟩=some (.slice a2 n2 d2)∧w'.cell? ⟨w1.heap.size,2,none⟩=some (.slice a3 n3 d3)∧w'.cell? ⟨w1.heap.size,3,none⟩=some (.slice a4 n4 d4)∧w'.cell? ⟨b6,off6,none⟩=some (.int .i64 (m0:Nat))∧w'.cell? ⟨b6,off6+1,none⟩=some (.int .i64 (m1:Nat))):=H_ fun w' hb'=>by
      have k:=HKT.out.below hb' HKT.out.lt
      exact ⟨k.cell 0,k.cell 1,k.cell 2,k.cell 3,(hb'.cell (p:=⟨b6,off6,none⟩) hb6).trans r0,(hb'.cell (p:=⟨b6,off6+1,none⟩) hb6).trans r1⟩
     obtain ⟨f0,f1,f2,f3,f4,f5⟩:=HF.out wr (B_ _ _)
     obtain ⟨g0,g1,g2,g3,g4,g5⟩:=HF.out wr.drew hd
     have hdm:wr.drew.heap.size=wr.heap.size:=rfl
     go_upto_region 8 with fail
     go_region_held3 (fun w'=>w'.cell? ⟨w1.heap.size,0,none⟩=some (.slice a1 n1 d1)∧w'.cell? ⟨w1.heap.size,1,none⟩=some (.slice a2 n2 d2)∧w'.cell? ⟨w1.heap.size,2,none⟩=some (.slice a3 n3 d3)∧w'.cell? ⟨w1.heap.size,3,none⟩=some (.slice a4 n4 d4)∧w'.cell? ⟨b6,off6,none⟩=some (.int .i64 (m0:Nat))∧w'.cell? ⟨b6,off6+1,none⟩=some (.int .i64 (m1:Nat))) (first | with_reducible assumption | go_keep) (first
      | (go_at_call_of 179 (Value.agg #[Value.slice a1 n1 d1,Value.slice a2 n2 d2]);refine (HS1.out wr.drew hd).mono ?_;rintro e8 w8 ⟨rfl,hb8_⟩;(have hz8:=hb8_.size);(have HB8:=H_ (hd.trans (hb8_.mono (le_ _))));obtain ⟨i0,i1,i2,i3,i4,i5⟩:=HF.out w8 HB8.out;clear hb8_)
      | (go_at_call_of 179 (Value.agg #[Value.slice a3 n3 d3,Value.slice a4 n4 d4]);refine (HS2.out w8 HB8.out).mono ?_;rintro e9 w9 ⟨rfl,hb9_⟩;(have hz9:=hb9_.size);(have HB9:=H_ (HB8.out.trans (hb9_.mono (by omega))));obtain ⟨j0,j1,j2,j3,j4,j5⟩:=HF.out w9 HB9.out;clear hb9_))
     have HI9:=H_ (HI.out.2.1.go HB9.out)
     have hpm:PM w9.drew (w1.heap.size+1) qs:=HI9.out.map.blk rfl
     have hql:=HI.out.1
     obtain ⟨wp,hrp_,hpp,hpg⟩:=hpm.put (p:=(m0,m1)) ⟨hf0,hf1⟩ (by omega)
     have hrp:(Instr.mapUpdate 191 (.map (some (w1.heap.size+1))) (.agg #[.int .i64 (m0:Nat),.int .i64 (m1:Nat)]) (.bool true)).run Tryz.prog w9.drew=.ok () wp:=hrp_
     have q4:w9.drew.cell? ⟨b6,off6,none⟩=some (.int .i64 (m0:Nat)):=j4
     have q5:w9.drew.cell? ⟨b6,off6+1,none⟩=some (.int .i64 (m1:Nat)):=j5
     have HPP:=H_ (And.intro hpp hpg)
     have HQL:=H_ hql
     clear hrp_ hpm hpp hpg hql
     go_upto_region 10 with fail
     go_region
     go_wp2
     go_roundw
     case rel=>exact ⟨k+1,_,by omega,by go_num,H_ ⟨by simp [HQL.out],OkI.put (wr:=w9.drew) ⟨HI9.out.map.blk rfl,HI9.out.out.drw⟩ HPP.out.1 HPP.out.2,HTK.out⟩⟩
     case measure=>simp [intOf];omega
    ·obtain rfl:k=xss.length:=by omega
     have hlk:(Instr.lookup 191 (.map (some (w1.heap.size+1))) (.agg #[.int .i64 1,.int .i64 1]) false).run Tryz.prog wr=.ok (.bool (decide ((1,1)∈qs))) wr:=HI.out.2.1.map.look (p:=(1,1)) ⟨by decide,by decide⟩
     have HW:=H_ (Below.outside HB2.out HI.out.2.1.out (by omega) (by omega))
     have HQP:=H_ (show qs=ps from by rw [HI.out.2.2,HPL.out,List.take_length])
     cases hmem:decide ((1,1)∈qs)
     ·have HNO:=H_ (show false=okX e f ps from okX_no fun h=>(of_decide_eq_false hmem) (by rw [HQP.out];exact (okP_open h).2.1))
      rw [hmem] at hlk
      go_wp2
      go_ret
      exact RetB.mk _ rfl ⟨HNO.out,HW.out⟩
     ·rw [hmem] at hlk
      have HTR:=H_ (HT2.out.outside HI.out.2.1.out (.inl (by omega)))
      have HPM:=H_ HI.out.2.1.map
      have HOR:=H_ HI.out.2.1.out
      have HI2:=H_ (show w1.heap.size+1<wr.heap.size from HI.out.2.1.map.lt)
      have hzr:=HI.out.2.1.out.size
      have HM1:=H_ (show (1,1)∈ps from by rw [←HQP.out];exact of_decide_eq_true hmem)
      clear HI hmem
      go_wp2_with (first | (at_range;refine wpList_range_pm wr rfl _ rfl (w1.heap.size+1) qs rfl HPM.out (fun p=>apartP (autV e) (autV f) p=0∧∀ m,m<12→nextP (autV e) (autV f) p m∈ps) ?_;intro w5 cnt0 hrg0 hg0 hs0) | go_in)
      go_frame
      have HB5:=H_ (show Below wr.heap.size wr w5 from ⟨hg0.os,hg0.tape,hg0.output,hg0.size,fun i hi=>hg0.block i hi (by simp)⟩)
      have HK5:=H_ ((KT.out.outside (show Outside (w1.heap.size+1) (w1.heap.size+1+1) w2 wr from HOR.out) (.inl (by omega))).below HB5.out (by have:=KT.out.lt;omega))
      have HT5:=H_ (HTR.out.below HB5.out (by omega))
      have HR5:Hid (RP w5 (w1.heap.size+1) wr.heap.size qs (fun p=>apartP (autV e) (autV f) p=0∧∀ m,m<12→nextP (autV e) (autV f) p m∈ps) cnt0∧Outside wr.heap.size (wr.heap.size+1) w5 w5):=H_ ⟨hrg0,Outside.refl _ _ _⟩
      have hs5:wr.heap.size+1≤w5.heap.size:=by omega
      have hkl:w1.heap.size<wr.heap.size:=by have:=HI2.out;omega
      clear hrg0 hg0 hs0 hlk
      go_loopw [12] (fun _ wx=>∃ cnt,Hid (RP wx (w1.heap.size+1) wr.heap.size qs (fun p=>apartP (autV e) (autV f) p=0∧∀ m,m<12→nextP (autV e) (autV f) p m∈ps) cnt∧Outside wr.heap.size (wr.heap.size+1) w5 wx)) (fun _ wx=>wx.rangeLeft (w1.heap.size+1) wr.heap.size)
      case atStart=>exact ⟨cnt0,HR5⟩
      case round=>
       rename World=>wx
       clear HR5
       obtain ⟨cnt,HQ⟩:=hrel
       have hzx:=HQ.out.2.size
       go_wp2_with (first | (at_next;refine wpList_next_pm wx rfl _ rfl (w1.heap.size+1) wr.heap.size cnt qs _ rfl HQ.out.1 ?_ ?_) | go_in)
       ·intro hall
        have HYES:=H_ (show true=okX e f ps from okX_yes (HA.out.open_ rfl) HL100.out HM1.out (by rw [←HXS.out];exact HR.out) (fun p hp=>hall p.1 p.2 (by rw [HQP.out];exact hp)))
        clear hall
        go_wp2
        go_ret
        exact RetB.mk _ rfl ⟨HYES.out,(Below.outside (HW.out.trans (HB5.out.mono (by omega))) HQ.out.2 (by omega) (by omega))⟩
       ·intro x y c w6 cnt' hxy hx hy hrp hlt hO hs hen
        have HXY:=H_ (show (x,y)∈ps from by rw [←HQP.out];exact hxy)
        clear hxy
        have HRP:=H_ hrp
        have HO6:=H_ (HQ.out.2.trans hO)
        have HLT:=H_ (show cnt' < wx.rangeLeft (w1.heap.size+1) wr.heap.size by rw [HQ.out.1.left];exact hlt)
        have hz6:=hO.size
        have h6w:=HO6.out.size
        clear hrp hO hs hlt HQ
        obtain ⟨w7,hw7⟩:∃ w7,w7=w6.alloc (.cells #[.int .i64 (x:Nat),.int .i64 (y:Nat)] 151):=⟨_,rfl⟩
        obtain ⟨hb7,KP_,hs7⟩:=box_facts2 hw7
        have HK7:=H_ ((HK5.out.outside HO6.out (by omega)).below hb7 (by omega))
        have HT7:=H_ ((HT5.out.outside HO6.out (.inl (by omega))).below hb7 (by omega))
        have KP:=H_ KP_
        have HB7:=H_ hb7
        have c0:=HK7.out.cell 0
        have c1:=HK7.out.cell 1
        have c2:=HK7.out.cell 2
        have c3:=HK7.out.cell 3
        clear hb7 KP_
        rw [hw7] at c0 c1 c2 c3
        obtain ⟨q,hq⟩:∃ q,q=apartP (autV e) (autV f) (x,y):=⟨_,rfl⟩
        have HQP':=H_ hq
        clear hq
        go_wp2_with fail
        simp only [←hw7]
        refine (apart_any _ _ _ _ _ _ _ _ x y w7 HT7.out (by omega) (autV_ok e) (autV_ok f) hx hy).mono ?_
        rintro e8 w8 ⟨rfl,hb8⟩
        rw [←HQP'.out]
        have hz8:=hb8.size
        have HB8:=H_ (HB7.out.trans (hb8.mono (by omega)))
        have HK8:=H_ (HK7.out.below hb8 (by omega))
        have HP8:=H_ (KP.out.below hb8 KP.out.lt)
        have HT8:=H_ (HT7.out.below hb8 (by omega))
        clear hw7 hen c0 c1 c2 c3 hb8 HT7 HK7
        have HB8':=H_ (show w6.heap.size≤w8.heap.size from by omega)
        have HWB:=H_ (show Below w.heap.size w w8 from (Below.outside (HW.out.trans (HB5.out.mono (by omega))) HO6.out (by omega) (by omega)).trans (HB8.out.mono (by omega)))
        by_cases hq0:q=0
        ·have hqd:((q:Int) !=0)=false:=by simp [hq0]
         have HQ0:=H_ (show apartP (autV e) (autV f) (x,y)=0 from by rw [←HQP'.out];exact hq0)
         clear hq0
         go_wp2
         go_loopw [78] (fun i wy=>∃ m:Nat,m≤12∧i=.int .i64 m∧Hid (Below w8.heap.size w8 wy)∧Hid (∀ j,j<m→nextP (autV e) (autV f) (x,y) j∈ps)) (fun i _=>12-(intOf i).toNat)
         case atStart=>exact ⟨0,by omega,rfl,H_ (B_ _ _),H_ (fun j hj=>by omega)⟩
         case round=>
          rename World=>wy
          obtain ⟨m,hm,rfl,HY,HJ⟩:=hrel
          have hzy:=HY.out.size
          by_cases hltm:m<12
          ·have hdm:decide ((m:Int)<12)=true:=by simp;omega
           have c0:=(HK8.out.below HY.out HK8.out.lt).cell 0
           have c1:=(HK8.out.below HY.out HK8.out.lt).cell 1
           have c2:=(HK8.out.below HY.out HK8.out.lt).cell 2
           have c3:=(HK8.out.below HY.out HK8.out.lt).cell 3
           have p0:=(HP8.out.below HY.out HP8.out.lt).cell 0
           have p1:=(HP8.out.below HY.out HP8.out.lt).cell 1
           go_wp2_with fail
           refine (next_any _ _ _ _ _ _ _ _ x y m wy (HT8.out.below HY.out (by omega)) (by omega) (autV_ok e) (autV_ok f) hx hy hltm).mono ?_
           rintro e9 w9 ⟨rfl,hb9⟩
           have hz9:=hb9.size
           have HB9:=H_ (HY.out.trans (hb9.mono hzy))
           have hs1:=(autV_ok e).step x hltm
           have hs2:=(autV_ok f).step y hltm
           have hpm:=(HRP.out.1.below HB8.out HRP.out.1.lt).below HB9.out (HRP.out.1.below HB8.out HRP.out.1.lt).lt
           have hlk:(Instr.lookup 191 (.map (some (w1.heap.size+1))) (.agg #[.int .i64 ((stepU (autV e) x m:Nat):Int),.int .i64 ((stepU (autV f) y m:Nat):Int)]) false).run Tryz.prog w9=.ok (.bool (decide ((stepU (autV e) x m,stepU (autV f) y m)∈qs))) w9:=hpm.look (p:=(stepU (autV e) x m,stepU (autV f) y m)) ⟨by show stepU (autV e) x m<1048576;omega,by show stepU (autV f) y m<1048576;omega⟩
           clear hpm hb9 c0 c1 c2 c3 p0 p1
           cases hmem:decide ((stepU (autV e) x m,stepU (autV f) y m)∈qs)
           ·have HNO:=H_ (show false=okX e f ps from okX_next HXY.out hltm (by rw [←HQP.out];exact of_decide_eq_false hmem))
            rw [hmem] at hlk
            go_wp2
            go_ret
            exact RetB.mk _ rfl ⟨HNO.out,HWB.out.trans (HB9.out.mono (by omega))⟩
           ·have HJN:=H_ (show ∀ j,j<m+1→nextP (autV e) (autV f) (x,y) j∈ps from fun j hj=>by
             by_cases hjm:j=m
             ·rw [hjm,←HQP.out];exact of_decide_eq_true hmem
             ·exact HJ.out j (by omega))
            rw [hmem] at hlk
            go_wp2
            go_roundw
            case rel=>exact ⟨m+1,by omega,by go_num,HB9,HJN⟩
            case measure=>simp [intOf];omega
          ·obtain rfl:m=12:=by omega
           have HRF:=H_ (((HRP.out.below HB8.out).below HY.out).weak (G':=fun p=>apartP (autV e) (autV f) p=0∧∀ m,m<12→nextP (autV e) (autV f) p m∈ps) (fun p hp=>hp.elim id (fun e=>by rw [e];exact ⟨HQ0.out,HJ.out⟩)))
           have HOF:=H_ (HO6.out.trans (Outside.of_below (HB8.out.trans (HY.out.mono HB8'.out)) (le_ _)))
           clear HRP HO6
           go_wp2
           go_roundw
           case rel=>exact ⟨cnt',H_ ⟨HRF.out,HOF.out⟩⟩
           case measure=>rw [HRF.out.left];exact HLT.out
        ·have hqd:((q:Int) !=0)=true:=by simp;omega
         have HNO:=H_ (show false=okX e f ps from okX_apart HXY.out (by rw [←HQP'.out];exact hq0))
         clear hq0
         go_wp2
         go_ret
         exact RetB.mk _ rfl ⟨HNO.out,HWB.out⟩
 ·have hl1:decide ((100:Int)<(xss.length:Int))=true:=by simp;omega
  have HL100:=H_ (show ¬ps.length≤100 from by rw [←HPL.out];exact hlen)
  cases ok
  ·go_wp2
   go_ret
   rw [←hw2]
   exact RetB.mk _ rfl ⟨okX_shut (HA.out.shut rfl),HB2.out⟩
  ·go_wp2
   go_ret
   rw [←hw2]
   exact RetB.mk _ rfl ⟨okX_no fun h=>HL100.out (okP_open h).1,HB2.out⟩
theorem own_past {mb sz lo hi e n:Nat} {w w':World} {v:Value} {xs:List Value} {qs:List (Nat × Nat)} (h:Own sz lo hi e w v n xs) (hm:PM w mb qs) (ho:Outside mb (mb+1) w w'):Own sz lo hi e w' v n xs:=by
 rcases h.1.2 with ⟨e1,h0⟩|⟨g,cap,cur,e1,hb,hg,rest⟩
 ·exact ⟨⟨h.1.1,.inl ⟨e1,h0⟩⟩,h.2⟩
 ·refine ⟨⟨h.1.1,.inr ⟨g,cap,cur,e1,hb,?_,rest⟩⟩,h.2⟩
  rw [ho.block g (Array.getElem?_eq_some_iff.1 hg).1 ?_]
  ·exact hg
  ·by_cases e2:g=mb
   ·subst e2
    obtain ⟨D,⟨es,c,hb2,_⟩,_⟩:=hm
    rw [hb2] at hg
    cases hg
   ·omega
theorem WyL.past {mb lo hi n:Nat} {w w':World} {v:Value} {ws:List ((Nat × Nat) × Value)} {l:List ((Nat × Nat) × List Int)} {qs:List (Nat × Nat)} (h:WyL lo hi w v n ws l) (hm:PM w mb qs) (ho:Outside mb (mb+1) w w'):WyL lo hi w' v n ws l:=
 ⟨own_past h.own hm ho,h.len,fun i j1 j2=>by obtain ⟨k0,k1,k2⟩:=h.tr i j1 j2;exact ⟨k0,own_past k1 hm ho,k2⟩⟩
structure SeenI (a b:Au) (qs:List (Nat × Nat)) (ws:List ((Nat × Nat) × Value)):Prop where
 nodup:qs.Nodup
 small:∀ p∈qs,p.1<1024∧p.2<1024
 rch:∀ x∈ws,RchP a b x.1∧x.1.1<1024∧x.1.2<1024
 len:ws.length≤qs.length
theorem SeenI.few {a b:Au} {qs:List (Nat × Nat)} {ws:List ((Nat × Nat) × Value)} (h:SeenI a b qs ws):ws.length≤1048576∧qs.length≤1048576:=by
 have:=pairs_few h.nodup h.small
 have:=h.len
 omega
theorem SeenI.push {a b:Au} {qs:List (Nat × Nat)} {ws:List ((Nat × Nat) × Value)} {p:Nat × Nat} (h:SeenI a b qs ws) (hn:p ∉ qs) (hp:p.1<1024∧p.2<1024) (hr:RchP a b p) (s:Value):SeenI a b (qs++[p]) (ws++[(p,s)]):=by
 refine ⟨?_,fun q hq=>?_,fun x hx=>?_,by have:=h.len;simp;omega⟩
 ·rw [List.nodup_append]
  exact ⟨h.nodup,by simp,fun x hx y hy e=>by simp only [List.mem_singleton] at hy;subst hy;subst e;exact hn hx⟩
 ·rcases List.mem_append.1 hq with hq|hq
  ·exact h.small q hq
  ·simp only [List.mem_singleton] at hq;subst hq;exact hp
 ·rcases List.mem_append.1 hx with hx|hx
  ·exact h.rch x hx
  ·simp only [List.mem_singleton] at hx;subst hx;exact ⟨hr,hp⟩
theorem SeenI.none {a b:Au} {qs:List (Nat × Nat)} {ws:List ((Nat × Nat) × Value)} (h:SeenI a b qs ws):SeenI a b qs []:=⟨h.nodup,h.small,(fun x hx=>by cases hx),Nat.zero_le _⟩
structure LvI (a b:Au) (w wr:World) (lv:Value) (n:Nat) (ws:List ((Nat × Nat) × Value)) (l:List ((Nat × Nat) × List Int)) (qs:List (Nat × Nat)):Prop where
 ways:WyL w.heap.size wr.heap.size wr lv n ws l
 map:PM wr (w.heap.size+2) qs
 below:Below w.heap.size w wr
 seen:SeenI a b qs ws
theorem LvI.go {a b:Au} {w wr wx:World} {lv:Value} {n:Nat} {ws:List ((Nat × Nat) × Value)} {l:List ((Nat × Nat) × List Int)} {qs:List (Nat × Nat)} (h:LvI a b w wr lv n ws l qs) (hb:Below wr.heap.size wr wx):LvI a b w wx lv n ws l qs:=
 ⟨(h.ways.below hb (le_ _)).lower (le_ _) hb.size (le_ _),h.map.below hb h.map.lt,h.below.trans (hb.mono h.below.size),h.seen⟩
structure FuI (a b:Au) (mb:Nat) (wS wx:World) (v:Value) (n:Nat) (fs:List ((Nat × Nat) × Value)) (l:List ((Nat × Nat) × List Int)) (qs:List (Nat × Nat)):Prop where
 ways:WyL wS.heap.size wx.heap.size wx v n fs l
 map:PM wx mb qs
 out:Outside mb (mb+1) wS wx
 seen:SeenI a b qs fs
theorem FuI.go {a b:Au} {mb n:Nat} {wS wx wy:World} {v:Value} {fs:List ((Nat × Nat) × Value)} {l:List ((Nat × Nat) × List Int)} {qs:List (Nat × Nat)} (h:FuI a b mb wS wx v n fs l qs) (hb:Below wx.heap.size wx wy):FuI a b mb wS wy v n fs l qs:=
 ⟨(h.ways.below hb (le_ _)).lower (le_ _) hb.size (le_ _),h.map.below hb h.map.lt,h.out.trans (Outside.of_below hb (le_ _)),h.seen⟩
theorem FuI.turn {a b:Au} {mb n:Nat} {wS wx w5:World} {v:Value} {fs:List ((Nat × Nat) × Value)} {l:List ((Nat × Nat) × List Int)} {qs:List (Nat × Nat)} (h:FuI a b mb wS wx v n fs l qs) (hg:wx.grownBy w5 (some mb)):WyL wS.heap.size w5.heap.size w5 v n fs l:=
 (h.ways.past h.map (PM.grown hg)).lower (le_ _) hg.size (le_ _)
theorem FuI.push {a b:Au} {mb n:Nat} {wS wx w5 w7 w9:World} {v v9 s:Value} {fs:List ((Nat × Nat) × Value)} {l:List ((Nat × Nat) × List Int)} {qs:List (Nat × Nat)} {p:Nat × Nat} {t:List Int} (h:FuI a b mb wS wx v n fs l qs) (hg:wx.grownBy w5 (some mb)) (hm:PM w5 mb (qs++[p])) (hb7:Below w5.heap.size w5 w7)
  (hs:OwnI wS.heap.size w7.heap.size 3 w7 s t) (ht:t.length≤n) (ho:Own 3 wS.heap.size w9.heap.size 193 w9 v9 (fs.length+1) (wys fs++encW (p,s))) (hgr:(w7.alloc (.cells (encW (p,s)).toArray 193)).grownBy w9 v.ownBlock)
  (hn:p ∉ qs) (hp:p.1<1024∧p.2<1024) (hr:RchP a b p):FuI a b mb wS w9 v9 n (fs++[(p,s)]) (l++[(p,t)]) (qs++[p]):=by
 have ha:=al_below w7 (.cells (encW (p,s)).toArray 193)
 have hz9:=hgr.size
 have h7:WyL wS.heap.size w7.heap.size w7 v n fs l:=((h.turn hg).below hb7 (le_ _)).lower (le_ _) hb7.size (le_ _)
 have h7a:WyL wS.heap.size (w7.alloc (.cells (encW (p,s)).toArray 193)).heap.size _ v n fs l:=(h7.below ha (le_ _)).lower (le_ _) ha.size (le_ _)
 have hm7:=(hm.below hb7 hm.lt)
 have hm7a:=hm7.below ha hm7.lt
 refine ⟨WyL.push h7a ((hs.below ha (le_ _)).lower (le_ _) ha.size) ht ho hgr hz9,hm7a.far h7a.own hgr,?_,h.seen.push hn hp hr s⟩
 have hO:=grown_outside hgr h7a.own.lt
 exact (((h.out.trans (PM.grown hg)).trans (Outside.of_below (hb7.trans (ha.mono hb7.size)) (le_ _))).fresh hO (le_ _))
theorem info_way:(Tryz.prog.info? 193).map (fun i=>(i.zero,i.size,i.bytes))=some (some (.agg #[.int .i64 0,.int .i64 0,.slice none 0 0]),3,40):=by kernel_rfl
theorem Blk.past {g mb:Nat} {cs:Array Value} {e:TypeId} {f:Nat × Nat} {w w':World} {qs:List (Nat × Nat)} (h:Blk g (.cells cs e f) w) (hm:PM w mb qs) (ho:Outside mb (mb+1) w w'):Blk g (.cells cs e f) w':=by
 refine h.outside ho ?_
 by_cases e2:g=mb
 ·subst e2
  obtain ⟨D,⟨es,c,hb2,_⟩,_⟩:=hm
  have h':w.heap[g]?=_:=h
  rw [hb2] at h'
  cases h'
 ·omega
structure FwI (a b:Au) (mb:Nat) (wS:World) (g:Nat) (cs:Array Value) (wx:World) (v:Value) (n:Nat) (fs:List ((Nat × Nat) × Value)) (l:List ((Nat × Nat) × List Int)) (qs:List (Nat × Nat)):Prop where
 fu:FuI a b mb wS wx v n fs l qs
 blk:Blk g (.cells cs 193 (0,0)) wx
 ne:v.ownBlock≠some g
theorem FwI.go {a b:Au} {mb g n:Nat} {cs:Array Value} {wS wx wy:World} {v:Value} {fs:List ((Nat × Nat) × Value)} {l:List ((Nat × Nat) × List Int)} {qs:List (Nat × Nat)} (h:FwI a b mb wS g cs wx v n fs l qs) (hb:Below wx.heap.size wx wy):FwI a b mb wS g cs wy v n fs l qs:=
 ⟨h.fu.go hb,h.blk.below hb h.blk.lt,h.ne⟩
theorem FwI.push {a b:Au} {mb g n:Nat} {cs:Array Value} {wS wx w5 w7 w9:World} {v v9 s:Value} {fs:List ((Nat × Nat) × Value)} {l:List ((Nat × Nat) × List Int)} {qs:List (Nat × Nat)} {p:Nat × Nat} {t:List Int} (h:FwI a b mb wS g cs wx v n fs l qs) (hg:wx.grownBy w5 (some mb)) (hm:PM w5 mb (qs++[p])) (hb7:Below w5.heap.size w5 w7)
  (hs:OwnI wS.heap.size w7.heap.size 3 w7 s t) (ht:t.length≤n) (ho:Own 3 wS.heap.size w9.heap.size 193 w9 v9 (fs.length+1) (wys fs++encW (p,s))) (hgr:(w7.alloc (.cells (encW (p,s)).toArray 193)).grownBy w9 v.ownBlock)
  (hl:v9.ownBlock=v.ownBlock∨v9.ownBlock=some (w7.alloc (.cells (encW (p,s)).toArray 193)).heap.size)
  (hn:p ∉ qs) (hp:p.1<1024∧p.2<1024) (hr:RchP a b p):FwI a b mb wS g cs w9 v9 n (fs++[(p,s)]) (l++[(p,t)]) (qs++[p]):=by
 have ha:=al_below w7 (.cells (encW (p,s)).toArray 193)
 have k5:=h.blk.past h.fu.map (PM.grown hg)
 have k7:=(k5.below hb7 k5.lt)
 have k8:=k7.below ha k7.lt
 refine ⟨h.fu.push hg hm hb7 hs ht ho hgr hn hp hr,?_,?_⟩
 ·exact (hgr.block g k8.lt (fun e=>h.ne e.symm)).trans k8
 ·rcases hl with e|e
  ·rw [e];exact h.ne
  ·rw [e]
   intro e2
   injection e2 with e2
   have:=k8.lt
   omega
theorem FuI.beside {a b:Au} {mb n:Nat} {wS wx:World} {v:Value} {fs:List ((Nat × Nat) × Value)} {l:List ((Nat × Nat) × List Int)} {qs:List (Nat × Nat)} (h:FuI a b mb wS wx v n fs l qs) (cs:Array Value):FwI a b mb wS wx.heap.size cs (wx.alloc (.cells cs 193)) v n fs l qs:=
 ⟨h.go (al_below _ _),Blk.new wx _,fun e=>by have:=(h.ways.own.lt _ e).2;omega⟩
theorem FuI.seek {a b:Au} {mb n lo hi m:Nat} {wS wx:World} {v lv:Value} {fs ws:List ((Nat × Nat) × Value)} {l l2:List ((Nat × Nat) × List Int)} {qs qs0:List (Nat × Nat)} (h:FuI a b mb wS wx v n fs l qs) (hw:WyL lo hi wS lv m ws l2) (hm:PM wS mb qs0):WyL lo hi wx lv m ws l2:=hw.past hm h.out
end
end Go.Proofs.YtfnnhimopokpnaaGreatDoor
