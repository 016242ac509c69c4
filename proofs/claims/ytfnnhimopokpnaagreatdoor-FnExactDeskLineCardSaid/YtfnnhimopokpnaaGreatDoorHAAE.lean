/- Lemmas for this seat; no condition. -/
import Derived.Test.YtfnnhimopokpnaaGreatDoorHAAD
namespace Go.Proofs.YtfnnhimopokpnaaGreatDoor
open Go.RowKit
set_option maxRecDepth 100000
set_option maxHeartbeats 0
set_option linter.unusedVariables false
section
theorem info_ptr:(Tryz.prog.info? 139).map (fun i=>(i.zero,i.size,i.bytes))=some (some (.pointer none),1,8):=by kernel_rfl
section
variable {P:Program} {w:World} {ops:Array Oper} {rest:List Oper} {o:Oper} {a:Act} {Q:Exit→Act→World→Prop}
theorem wpList_app_lit_at (w0:World) (hgd:o.guard=none) (s x:Operand) (t:TypeId)
  (ho:o.op=.call { callee:=.builtin .append,args:=#[s,x],argTypes:=#[t,t] })
  (e:TypeId) (z:Value) (sz bytes:Nat) (ht:P.underlying t=some (.slice e)) (hinfo:(P.info? e).map (fun i=>(i.zero,i.size,i.bytes))=some (some z,sz,bytes))
  (hzs:z.cells.size=sz) (hsz:0<sz) (hby:bytes≤64)
  {lo hi n:Nat} {v:Value} {xs:List Value} (hs:a.eval s=v) (hown:Own sz lo hi e w0 v n xs)
  (m:Nat) (ys:List Value) (hx:a.eval x=.slice (some ⟨w0.heap.size,0,none⟩) m m) (hlen:ys.length=m*sz) (h1:∀ u∈ys,u.oneCell'=true) (hw:w=w0.alloc (.cells ys.toArray e))
  (hn:n+m≤1073741824) (hlo:lo≤w0.heap.size)
  (h:∀ v' w',Own sz lo w'.heap.size e w' v' (n+m) (xs++ys)→w.grownBy w' v.ownBlock→(v'.ownBlock=v.ownBlock∨v'.ownBlock=some w.heap.size)→(v'=.slice none 0 0↔v=.slice none 0 0∧m=0)→wpList P ops Q rest (a.put o.dst v') w'):wpList P ops Q (o :: rest) a w:=by
 subst hw
 obtain ⟨i,hi0,hz,hsize,hb⟩:=info_parts hinfo
 have hl:=(Own.lit sz e w0 ys m (by omega) hlen).sl
 obtain ⟨ao,c,e',hmc,hcm,hlen',hnone,hc⟩:=hl
 injection e' with e1 e2 e3
 subst e1 e3
 have hmx:(n+m)*bytes≤140737488355328:=Nat.le_trans (Nat.mul_le_mul hn hby) (by decide)
 refine wpList_append_own_at _ hgd s x t ho lo e i z sz bytes ht hi0 hz hsize hb hzs hsz v n xs hs (hown.alloc _).1 _ m m ys hx hlen' ?_ h1 (by unfold maxLen;omega) hmx (by simp;omega) ?_
 ·intro j u hu
  have hj:=(List.getElem?_eq_some_iff.1 hu).1
  obtain ⟨b,off,e1,_,_,_,e2⟩:=hc j hj
  cases e1
  rw [Addr.add_lit,e2,hu]
 ·intro v' w' h2 h3 h4 h5
  exact h v' w' (Own.of_row h2) h3 h5 h4
end
theorem Own.front {lo hi e n m cap:Nat} {w:World} {a:Option Addr} {ys ks:List Value} (h:Own 1 lo hi e w (.slice a n cap) n (ys++ks)) (hm:ys.length=m) (ha:a≠none):Own 1 lo hi e w (.slice a m cap) m ys:=by
 obtain ⟨⟨hlen,h1⟩,h2⟩:=h
 refine ⟨⟨by omega,?_⟩,fun g hg=>h2 g (by cases a<;>simp [Value.ownBlock] at hg ⊢<;>exact hg)⟩
 rcases h1 with ⟨h0,_⟩|⟨g,cap',cur,hv,hg,hh,hn,hcap,hsz,htake⟩
 ·injection h0 with h0;exact absurd h0 ha
 ·cases hv
  have hln:ys.length+ks.length=n:=by simpa using hlen
  refine .inr ⟨g,cap,cur,rfl,hg,hh,by omega,hcap,hsz,?_⟩
  have h3:(cur.toList.take (n*1)).take m=ys:=by rw [htake,←hm,List.take_left]
  rw [List.take_take,Nat.min_eq_left (by omega)] at h3
  rwa [Nat.mul_one]
theorem Own.rest {lo hi e n m cap g:Nat} {w:World} {ys ks:List Value} (h:Own 1 lo hi e w (.slice (some ⟨g,0,none⟩) n cap) n (ys++ks)) (hm:ys.length=m) (c:Nat) (hc:ks.length=c):Sl 1 lo hi w (.slice (if cap=m then some ⟨g,0,none⟩ else some ⟨g,m,none⟩) c (cap-m)) c ks:=by
 obtain ⟨a,cap',e1,h1,h2,h3,h4,h5⟩:=h.sl
 injection e1 with e1 e2 e3
 subst e1 e3
 have hln:ys.length+ks.length=n:=by simpa using h3
 refine ⟨_,_,rfl,by omega,by unfold maxLen at h2 ⊢;omega,by omega,(fun h=>by split at h<;>cases h),fun i hi=>?_⟩
 rw [if_neg (by omega)]
 obtain ⟨b,off,f1,f2,f3,f4,f5⟩:=h5 (m+i) (by rw [List.length_append];omega)
 injection f1 with f1
 injection f1 with f1 f1'
 subst f1 f1'
 refine ⟨g,m,rfl,f2,f3,f4,?_⟩
 rw [Nat.zero_add] at f5
 rw [f5,List.getElem?_append_right (by omega)]
 congr 1
 omega
theorem RT.isPtr {lo:Nat} {row:Option Nat} {w:World} {t:KT} {p:Value} (h:RT lo row w t p):∃ a,p=.pointer a:=by
 obtain ⟨ps,⟨b,kv,h,_⟩,_⟩:=h.node
 exact ⟨_,h⟩
theorem Stk.ptrs {lo:Nat} {row:Option Nat} {w:World}:∀ {ps:List Value} {ts:List KT},Stk lo row w ps ts→∀ u∈ps,u.oneCell'=true
 | [],_,_,u,hu=>by cases hu
 | _ :: _,[],h,_,_=>h.elim
 | p :: ps,t :: ts,h,u,hu=>by
  rcases List.mem_cons.1 hu with rfl|hu
  ·obtain ⟨a,rfl⟩:=h.1.isPtr
   rfl
  ·exact Stk.ptrs h.2 u hu
theorem KidsAt.of_own {lo hi e n:Nat} {w:World} {v:Value} {ps:List Value} {row:Option Nat} {lo':Nat} (h:Own 1 lo hi e w v n ps) (hl:lo'≤lo) (hr:∀ g,row=some g→g<lo):KidsAt lo' row w v ps:=by
 obtain ⟨a,cap,h1,h2,h3,h4,_,h6⟩:=h.sl
 have hn:n=ps.length:=by omega
 subst hn
 refine ⟨a,cap,h1,h2,h3,fun i hi=>?_⟩
 obtain ⟨b,off,e1,e2,e3,e4,e5⟩:=h6 i hi
 refine ⟨b,off,e1,by omega,fun hb=>?_,e4,by rw [e5,List.getElem?_eq_getElem hi]⟩
 have:=hr b hb.symm
 omega
theorem beginOf_any (lo hi:Nat) (v:Value) (xs:List Int) (at_ c:Nat) (w:World) (hx:SlI lo hi w v xs) (hm:xs.length≤1048576) (ha:at_<xs.length) (hs:spanO (xs.take (at_+1)).reverse 1=some c) :
  Calls Tryz.prog 164 #[v,.int .i64 at_] w (RetI fun x w'=>x=((at_+1-c:Nat):Int)∧1≤c∧c≤at_+1∧w=w'):=by
 obtain ⟨a,cap,rfl,hcap,hcm,hc⟩:=hx.open
 clear hx hcm hcap
 have HS:=H_ hs
 clear hs
 go_enter Tryz.func164,Tryz.ntmps164
 go_wp2
 go_loop [5,6] (fun n i=>∃ (q:Nat) (need:Int) (r:Nat),q≤at_+1∧i=.int .i64 ((q:Int)-1)∧n=.int .i64 need∧0<need∧need≤1+(at_+1-q)∧Hid (spanO (xs.take q).reverse need=some r∧r+(at_+1)=c+q)) (fun _ i=>(intOf i+1).toNat)
 case atStart=>exact ⟨at_+1,1,c,le_ _,by go_num,rfl,by omega,by omega,H_ ⟨HS.out,by omega⟩⟩
 case round=>
  obtain ⟨q,need,r,hq,rfl,rfl,hn0,hn1,HI⟩:=hrel
  have hq0:0<q:=by
   rcases Nat.eq_zero_or_pos q with h|h
   ·subst h
    have:=HI.out.1
    simp only [List.take_zero,List.reverse_nil,spanO] at this
    rw [if_neg (by omega)] at this
    cases this
   ·exact h
  obtain ⟨q,rfl⟩:∃ p,q=p+1:=⟨q-1,by omega⟩
  have hqx:q<xs.length:=by omega
  have hspan:=HI.out.1
  rw [take_succ_rev xs q hqx,spanO_cons _ _ _ hn0,Option.map_eq_some_iff] at hspan
  obtain ⟨r',hr1,hr2⟩:=hspan
  have HI2:=H_ (And.intro hr1 (show r'+(at_+1)=c+q by have:=HI.out.2;omega))
  obtain ⟨b,off,rfl,_,_,_,hcell⟩:=hc q hqx
  obtain ⟨t0,t1⟩:=takesI_bd xs[q]
  have hsub:(((q+1:Nat):Int))-1=(q:Int):=by omega
  clear hr1 hr2 hc
  by_cases hz:need+(takesI xs[q]-1)=0
  ·have hz1:(need+(takesI xs[q]-1)==0)=true:=by simp [hz]
   have hr0:r'=0:=by
    have h:=HI2.out.1
    rw [show need-1+takesI xs[q]=0 by omega,spanO_zero] at h
    injection h with h
    exact h.symm
   have hfin:=HI2.out.2
   clear hz
   go_wp2_with (go_at_call 121;refine (impl_takes _ _).mono ?_;rintro e w' ⟨rfl,rfl⟩)
   go_ret
   exact RetI.mk _ rfl ⟨by omega,by omega,by omega,rfl⟩
  ·have hz1:(need+(takesI xs[q]-1)==0)=false:=by simpa using hz
   have hpos:0<need-1+takesI xs[q]:=by omega
   go_wp2_with (go_at_call 121;refine (impl_takes _ _).mono ?_;rintro e w' ⟨rfl,rfl⟩)
   go_round
   case rel=>exact ⟨q,need-1+takesI xs[q],r',by omega,by first | rfl | go_num,by first | rfl | go_num,by omega,by omega,HI2⟩
   case measure=>simp [intOf]
def BuiltTo (lo:Nat) (w0 wr:World) (e:List Int) (k:Nat) (v:Value) (n:Nat):Prop:=
 ∃ xs st,Own 1 lo wr.heap.size 139 wr v n xs∧Below lo w0 wr∧runK (e.take k) []=some st∧Stk lo v.ownBlock wr xs.reverse st∧n≤k
theorem runK_take {e:List Int} {t:KT} (h:runK e []=some [t]) (k:Nat) (hk:k<e.length) {st:List KT} (hs:runK (e.take k) []=some st):∃ st',pushK e[k] st=some st'∧runK (e.take (k+1)) []=some st':=by
 have h1:e=e.take k++(e[k] :: e.drop (k+1)):=by rw [←List.drop_eq_getElem_cons hk,List.take_append_drop]
 rw [h1,runK_append,hs] at h
 simp only [Option.bind_some,runK,Option.bind_eq_some_iff] at h
 obtain ⟨st',h2,_⟩:=h
 refine ⟨st',h2,?_⟩
 rw [List.take_add_one,List.getElem?_eq_getElem hk,runK_append,hs]
 simp [runK,h2]
theorem build_step {lo:Nat} {w0 wr w1 w3:World} {e:List Int} {k m c:Nat} {row:Option Nat} {ys ks:List Value} {st st':List KT} {s:Int} {a1:Option Addr} {c1:Nat} {v3:Value} {o:Obj}
  (hbel:Below lo w0 wr) (hlo:lo≤wr.heap.size) (hrow:∀ g,row=some g→lo≤g∧g<wr.heap.size) (hstk:Stk lo row wr (ys++ks).reverse st) (hpush:pushK s st=some st') (hck:(ks.length:Int)=takesI s)
  (hrun:runK (e.take (k+1)) []=some st') (hmk:m≤k) (ho1:Own 1 wr.heap.size w1.heap.size 139 w1 (.slice a1 c c1) c ks) (hout:Outside wr.heap.size wr.heap.size wr w1)
  (ho3:Own 1 lo w3.heap.size 139 w3 v3 (m+1) (ys++[.pointer (some ⟨w1.heap.size,0,none⟩)]))
  (hgr:((w1.alloc (.cells #[.int .i64 s,.slice a1 c c1] 188)).alloc o).grownBy w3 row) (hloc:v3.ownBlock=row∨v3.ownBlock=some ((w1.alloc (.cells #[.int .i64 s,.slice a1 c c1] 188)).alloc o).heap.size) :
  BuiltTo lo w0 w3 e (k+1) v3 (m+1):=by
 have hs1:=hout.size
 have hgs:=hgr.size
 have hz2:(w1.alloc (.cells #[.int .i64 s,.slice a1 c c1] 188)).heap.size=w1.heap.size+1:=by simp
 have hz3:((w1.alloc (.cells #[.int .i64 s,.slice a1 c c1] 188)).alloc o).heap.size=w1.heap.size+1+1:=by simp
 obtain ⟨w2,hw2⟩:∃ w2,w2=(w1.alloc (.cells #[.int .i64 s,.slice a1 c c1] 188)).alloc o:=⟨_,rfl⟩
 have hb2:Below w1.heap.size w1 w2:=by rw [hw2];exact ((B_ _ _).alloc (le_ _) _).alloc (by simp) _
 have hK:Blk w1.heap.size (.cells #[.int .i64 s,.slice a1 c c1] 188) w2:=by
  rw [hw2];exact (Blk.new w1 _).below ((B_ (w1.alloc _).heap.size _).alloc (le_ _) _) (by simp)
 rw [←hw2] at hgr hloc hgs hz3
 have hk12:Keeps lo row wr lo row w2:=⟨by omega,fun i hi h1 h2=>⟨(hb2.block i (by omega)).trans (hout.block i hi (by omega)),h1,h2⟩⟩
 have hnode:NodeAt lo row w2 (.pointer (some ⟨w1.heap.size,0,none⟩)) s ks:=
  ⟨w1.heap.size,_,rfl,by omega,fun h=>by have:=hrow _ h.symm;omega,hK,KidsAt.of_own (ho1.below hb2 (le_ _)) hlo fun g hg=>(hrow g hg).2⟩
 have hstk2:=Stk.push hpush (hstk.mono hk12) hck hnode
 have hk23:Keeps lo row w2 lo v3.ownBlock w3:=⟨hgs,fun i hi h1 h2=>⟨hgr.block i hi h2,h1,fun h=>by
  rcases hloc with h'|h'
  ·exact h2 (h.trans h')
  ·have:=h.trans h'
   injection this with this
   omega⟩⟩
 refine ⟨_,_,ho3,?_,hrun,hstk2.mono hk23,by omega⟩
 have h1:Below lo w0 w1:=Below.outside hbel hout hlo hlo
 have h2:Below lo w0 w2:=h1.trans (hb2.mono (by omega))
 refine ⟨hgr.os.trans h2.os,hgr.tape.trans h2.tape,hgr.output.trans h2.output,Nat.le_trans h2.size hgs,fun i hi=>?_⟩
 have hlt2:i<w2.heap.size:=by omega
 rw [hgr.block i hlt2 (fun h=>by have:=hrow i h.symm;omega)]
 exact h2.block i hi
theorem implBuild (v:Value) (e:List Int) (t:KT) (w:World) (hx:RdI w v e) (hm:e.length≤1000) (ht:runK e []=some [t]) :
  Calls Tryz.prog 132 #[v] w (RetV fun p w'=>Below w.heap.size w w'∧RT w.heap.size none w' t p):=by
 obtain ⟨a,cap,rfl,hcap,hcm,_⟩:=hx.open
 have HX:=H_ hx
 have HT:=H_ ht
 clear hx ht
 go_enter Tryz.func132,Tryz.ntmps132
 go_wp2
 go_loopw [3,10] (fun v i wr=>∃ (k n:Nat),k≤e.length∧i=.int .i64 k∧Hid (BuiltTo w.heap.size w wr e k v n)) (fun _ i _=>e.length-(intOf i).toNat)
 case atStart=>exact ⟨0,0,by omega,rfl,H_ ⟨[],[],Own.nil _ _ _ _ _,B_ _ _,by simp [runK],trivial,le_ _⟩⟩
 case round=>
  obtain ⟨k,n,hk,rfl,HR⟩:=hrel
  by_cases hlt:k<e.length
  ·obtain ⟨xs,st,hown,hbel,hrun,hstk,hnk⟩:=HR.out
   obtain ⟨st',hpush,hrun'⟩:=runK_take HT.out k hlt hrun
   obtain ⟨hle,hlen'⟩:=pushK_takes hpush
   obtain ⟨s,hs⟩:∃ s,s=e[k]:=⟨_,rfl⟩
   rw [←hs] at hpush hle hlen'
   obtain ⟨c,hc⟩:∃ c:Nat,takesI s=c:=⟨(takesI s).toNat,by have:=takesI_bd s;omega⟩
   obtain ⟨b,off,rfl,_,_,hbs,hcell⟩:=SlI.get (HX.out.below hbel) k hlt
   have HK:=H_ hbel
   have HP:=H_ hpush
   have HN:=H_ hrun'
   have HS:=H_ hstk
   have hck:wr.cell? ⟨b,off+k,none⟩=some (.int .i64 s):=by rw [hs];exact hcell
   have HTK:Hid (∀ wx,Calls Tryz.prog 121 #[.int .i64 s] wx fun e w'=>e=.returned (.int .i64 (c:Int))∧wx=w'):=H_ fun wx=>by rw [←hc];exact impl_takes s wx
   have hxl:xs.length=n:=by have:=hown.1.1;omega
   have hst:st.length=n:=by have:=hstk.length;simp at this;omega
   obtain ⟨ys,ks,rfl,hks,hys⟩:∃ ys ks,xs=ys++ks∧ks.length=c∧ys.length+c=n:=⟨xs.take (n-c),xs.drop (n-c),(List.take_append_drop _ _).symm,by simp;omega,by simp;omega⟩
   obtain ⟨m,hm'⟩:∃ m,m=ys.length:=⟨_,rfl⟩
   obtain rfl:n=m+c:=by omega
   have hptr:=hstk.ptrs
   have HCK:=H_ (show (ks.length:Int)=takesI s by omega)
   have hle':Below w.heap.size w wr:=hbel
   have hsz:=hbel.size
   clear hs hcell hrun hpush hrun' hle hc
   have hown':=hown
   obtain ⟨⟨_,hv|⟨g,cap2,cur,rfl,hg1,hg2,hg3,hg4,_,_⟩⟩,hlo⟩:=hown'
   ·obtain ⟨rfl,hmc⟩:=hv
    obtain ⟨rfl,rfl⟩:m=0∧c=0:=by omega
    obtain rfl:ys=[]:=List.eq_nil_of_length_eq_zero hm'.symm
    obtain rfl:ks=[]:=List.eq_nil_of_length_eq_zero hks
    have HSL:=H_ (Own.nil 1 wr.heap.size wr.heap.size 139 wr).sl
    clear hm' hown hstk hle' HR hptr hks hys hxl hst
    go_wp2_with (first | (go_at_call 121;refine (HTK.out _).mono ?_;rintro e w' ⟨rfl,rfl⟩) | (at_builtin;go_loud (refine wpList_app_sl rfl _ _ 186 rfl 139 (.pointer none) 1 8 Tryz.underlying186 info_ptr rfl (by decide) (by decide) rfl (Own.nil 1 wr.heap.size wr.heap.size 139 wr) rfl HSL.out (by simp) ?c1 ?c2 ?_)))
    case c1=>omega
    case c2=>omega
    intro v1 w1 ho1 _ hout1 _
    obtain ⟨a1,c1,rfl,_⟩:=Own.open ho1
    have HO1:=H_ ho1
    have HOUT:=H_ hout1
    have hs1:=hout1.size
    obtain ⟨w2,hw2⟩:∃ w2,w2=w1.alloc (.cells #[.int .i64 s,.slice a1 0 c1] 188):=⟨_,rfl⟩
    have hsz2:w2.heap.size=w1.heap.size+1:=by rw [hw2];simp
    have HW2:=H_ hw2
    clear ho1 hout1 hw2
    go_wp2_with (first | rw [←HW2.out] | (at_builtin;go_loud (refine wpList_app_lit_at w2 rfl _ _ 186 rfl 139 (.pointer none) 1 8 Tryz.underlying186 info_ptr rfl (by decide) (by decide) rfl (Own.nil 1 w.heap.size w.heap.size 139 w2) 1 [.pointer (some ⟨w1.heap.size,0,none⟩)] (by rw [hsz2];rfl) rfl (by simp [Value.oneCell']) rfl ?c1 ?c2 ?_)))
    case c1=>omega
    case c2=>omega
    intro v3 w3 ho3 hgr3 hloc _
    have HB3:=H_ (build_step (k:=k) (e:=e) (row:=none) (m:=0) HK.out hsz (fun x hx=>by cases hx) HS.out HP.out HCK.out HN.out (by omega) HO1.out HOUT.out ho3 (by rw [←HW2.out];exact hgr3) (by rw [←HW2.out];simpa [hsz2,Value.ownBlock] using hloc))
    obtain ⟨a3,c3,rfl,_⟩:=Own.open ho3
    clear ho3 hgr3 hloc
    go_wp2
    go_roundw
    case rel=>exact ⟨k+1,1,by omega,by go_num,HB3⟩
    case measure=>simp [intOf];omega
   ·have hglt:=hlo g rfl
    have HO:=H_ hown
    have HREST:=H_ (Own.rest hown hm'.symm c hks)
    have HFR:=H_ (Own.front hown hm'.symm (by simp))
    have HM':=H_ hm'
    clear hm' hown hlo hg2 hstk hle' HR
    have q1:(0:Int)≤m:=by omega
    have q2:(m:Int)≤(m+c:Nat):=by omega
    have q3:(m:Int)≤cap2:=by omega
    have q4:(m:Int)≤(m:Int)+c:=by omega
    have q5:((m:Int)+c).toNat=m+c:=by omega
    have q6:((m:Int)+c-m).toNat=c:=by omega
    have q7:(m:Int)+c-c=m:=by omega
    have q8:((m+c:Nat):Int)-c=m:=by omega
    have q9:(m:Int)+c≤cap2:=by omega
    have q10:m≤cap2:=by omega
    unfold maxLen at hg4
    have q11:m+c-m=c:=by omega
    have HLT:=H_ (And.intro hg1 hglt)
    have HPT:=H_ (fun (u:Value) (hu:u∈ks)=>hptr u (by simp [hu]))
    clear hptr hks hys hxl hst
    have hcases:m=cap2∨¬cap2=m:=by omega
    rcases hcases with rfl|hcm2
    all_goals (
     have HR2:=HREST.out
     first | rw [if_pos rfl,Nat.sub_self] at HR2 | rw [if_neg hcm2] at HR2
     have HREST2:=H_ HR2
     clear HR2
     go_wp2_with (first | (go_at_call 121;refine (HTK.out _).mono ?_;rintro e w' ⟨rfl,rfl⟩) | (at_builtin;go_loud (refine wpList_app_sl rfl _ _ 186 rfl 139 (.pointer none) 1 8 Tryz.underlying186 info_ptr rfl (by decide) (by decide) rfl (Own.nil 1 wr.heap.size wr.heap.size 139 wr) rfl HREST2.out HPT.out ?c1 ?c2 ?_)))
     case c1=>omega
     case c2=>omega
     all_goals (
      intro v1 w1 ho1 _ hout1 _
      obtain ⟨a1,c1,rfl,_⟩:=Own.open ho1
      have HO1:=H_ ho1
      have HOUT:=H_ hout1
      have hs1:=hout1.size
      obtain ⟨w2,hw2⟩:∃ w2,w2=w1.alloc (.cells #[.int .i64 s,.slice a1 c c1] 188):=⟨_,rfl⟩
      have HFR2:=H_ ((HFR.out.outside hout1 (.inl (le_ _))).alloc (.cells #[.int .i64 s,.slice a1 c c1] 188))
      rw [←hw2] at HFR2
      have hsz2:w2.heap.size=w1.heap.size+1:=by rw [hw2];simp
      have HW2:=H_ hw2
      clear ho1 hout1 hw2
      go_wp2_with (first | rw [←HW2.out] | (at_builtin;go_loud (refine wpList_app_lit_at w2 rfl _ _ 186 rfl 139 (.pointer none) 1 8 Tryz.underlying186 info_ptr rfl (by decide) (by decide) rfl HFR2.out 1 [.pointer (some ⟨w1.heap.size,0,none⟩)] (by rw [hsz2];rfl) rfl (by simp [Value.oneCell']) rfl ?c1 ?c2 ?_)))
      case c1=>omega
      case c2=>omega
      intro v3 w3 ho3 hgr3 hloc _
      have HB3:=H_ (build_step (k:=k) (e:=e) (row:=some g) HK.out hsz (fun x hx=>by injection hx with hx;subst hx;exact HLT.out) HS.out HP.out HCK.out HN.out (by omega) HO1.out HOUT.out ho3 (by rw [←HW2.out];exact hgr3) (by rw [←HW2.out];simpa [hsz2,Value.ownBlock] using hloc))
      obtain ⟨a3,c3,rfl,_⟩:=Own.open ho3
      clear ho3 hgr3 hloc
      go_wp2
      go_roundw
      case rel=>exact ⟨k+1,m+1,by omega,by go_num,HB3⟩
      case measure=>simp [intOf];omega))
  ·obtain rfl:k=e.length:=by omega
   obtain ⟨xs,st,hown,hbel,hrun,hstk,hnk⟩:=HR.out
   rw [List.take_length,HT.out] at hrun
   injection hrun with hrun
   subst hrun
   have hxl:xs.length=1:=by have:=hstk.length;simpa using this
   obtain ⟨p,rfl⟩:∃ p,xs=[p]:=by
    match xs,hxl with
    | [p],_=>exact ⟨p,rfl⟩
   obtain rfl:n=1:=by have:=hown.1.1;simpa using this.symm
   have hnode:RT w.heap.size none wr t p:=RT.mono ⟨le_ _,fun i _ h1 h2=>⟨rfl,h1,by simp⟩⟩ hstk.1
   obtain ⟨a3,c3,rfl,h1,h2,_,h3⟩:=Own.open hown
   obtain ⟨g,rfl,_,_⟩:=h3 (by omega)
   have hck:wr.cell? ⟨g,0,none⟩=some p:=by
    obtain ⟨_,_,e1,_,_,_,_,h6⟩:=hown.sl
    obtain ⟨b,off,f1,_,_,_,f2⟩:=h6 0 (by simp)
    injection e1 with e1
    subst e1
    injection f1 with f1
    injection f1 with f1 f1'
    subst f1 f1'
    simpa using f2
   obtain ⟨pa,hpa⟩:=hnode.isPtr
   have HQ:=H_ (And.intro hbel hnode)
   clear hown hstk hnode HR hbel
   subst hpa
   go_wp2
   go_ret
   exact RetV.mk _ rfl HQ.out
theorem KT.kids_size {t k:KT} (h:k∈t.kids):k.size<t.size:=by
 cases t with
 | leaf n=>cases h
 | star t=>simp only [KT.kids,List.mem_singleton] at h;subst h;simp [KT.size]
 | bin q a b=>
  simp only [KT.kids,List.mem_cons,List.mem_nil_iff,or_false] at h
  rcases h with rfl|rfl<;>simp [KT.size]<;>omega
theorem KT.kids_len (t:KT):t.kids.length≤2:=by cases t<;>simp [KT.kids]
def postsK:List KT→Nat→List Int
 | _,0=>[]
 | [],_+1=>[]
 | t :: r,k+1=>t.post++postsK r k
theorem postsK_next:∀ (ks:List KT) (k:Nat) (h:k<ks.length),postsK ks (k+1)=postsK ks k++ks[k].post
 | [],k,h=>by cases h
 | t :: r,0,h=>by simp [postsK]
 | t :: r,k+1,h=>by
  have hk:k<r.length:=by simpa using h
  have ih:=postsK_next r k hk
  rw [postsK,ih,postsK,List.append_assoc]
  rfl
theorem postsK_zero (ks:List KT):postsK ks 0=[]:=by cases ks<;>rfl
theorem post_postsK (t:KT):t.post=postsK t.kids t.kids.length++[t.root]:=by
 cases t<;>simp [KT.post,KT.kids,KT.root,postsK]
theorem postsK_le (t:KT) (k:Nat):(postsK t.kids k).length≤t.size:=by
 cases t with
 | leaf n=>cases k<;>simp [KT.kids,postsK]
 | star t=>match k with
  | 0=>simp [KT.kids,postsK]
  | 1=>simp [KT.kids,postsK,KT.size,t.post_length]
  | k+2=>simp [KT.kids,postsK,KT.size,t.post_length]
 | bin q a b=>match k with
  | 0=>simp [KT.kids,postsK]
  | 1=>simp [KT.kids,postsK,KT.size,a.post_length];omega
  | 2=>simp [KT.kids,postsK,KT.size,a.post_length,b.post_length]
  | k+3=>simp [KT.kids,postsK,KT.size,a.post_length,b.post_length]
def StepsC (t:KT):Prop:=∀ (lo:Nat) (p:Value) (w:World),RT lo none w t p→t.size≤100 →
 Calls Tryz.prog 195 #[p] w (RetV fun v w'=>Below w.heap.size w w'∧OwnI w.heap.size w'.heap.size 3 w' v t.post)
theorem steps_node (t:KT) (ih:∀ k∈t.kids,StepsC k):StepsC t:=by
 intro lo p w hp hsz
 obtain ⟨ps,⟨b,kv,rfl,_,_,hblk,a,cap,rfl,hpc,hcm,hkid⟩,hstk⟩:=hp.node
 have hpl:=hstk.length
 have HS:=H_ hstk
 have HIH:=H_ ih
 have HKD:=H_ hkid
 have hkl:=t.kids_len
 have HKP:=H_ (postsK_le t)
 have c0:=hblk.cell 0
 have c1:=hblk.cell 1
 have hbs:=hblk.lt
 have HP:Hid (t.post=postsK t.kids t.kids.length++[t.root]):=H_ (post_postsK t)
 have HSZ:=H_ (fun k (h:k∈t.kids)=>Nat.le_trans (Nat.le_of_lt (KT.kids_size h)) hsz)
 obtain ⟨ks,hks⟩:∃ ks,ks=t.kids:=⟨_,rfl⟩
 rw [←hks] at HS HIH HKP HP hpl hkl HSZ
 clear hp hstk ih hkid hks
 unfold maxLen at hcm
 rw [hpl] at hpc c1
 go_enter Tryz.func195,Tryz.ntmps195
 go_wp2
 go_loopw [3,11] (fun v i wr=>∃ (k:Nat),k≤ks.length∧i=.int .i64 k∧Hid (OwnI w.heap.size wr.heap.size 3 wr v (postsK ks k)∧Below w.heap.size w wr)) (fun _ i _=>ks.length-(intOf i).toNat)
 case atStart=>exact ⟨0,by omega,rfl,H_ ⟨by rw [postsK_zero];exact Own.nil _ _ _ _ _,B_ _ _⟩⟩
 case round=>
  obtain ⟨k,hk,rfl,HR⟩:=hrel
  obtain ⟨va,vc,rfl,hvc,hvm,_⟩:=Own.open HR.out.1
  have hb:=HR.out.2
  by_cases hlt:k<ks.length
  ·have hkp:k<ps.length:=by omega
   obtain ⟨g,off,rfl,hg1,_,hg2,hg3⟩:=HKD.out k hkp
   obtain ⟨q,hq⟩:∃ q,q=ps[k]:=⟨_,rfl⟩
   rw [←hq] at hg3
   have hck:wr.cell? ⟨g,off+k,none⟩=some q:=by rw [hb.cell (p:=⟨g,off+k,none⟩) hg2];exact hg3
   have hRT:=(HS.out.get k hkp hlt).below hb
   rw [←hq] at hRT
   obtain ⟨qa,rfl⟩:=hRT.isPtr
   have HC:=H_ (HIH.out ks[k] (List.getElem_mem hlt) lo _ wr hRT (HSZ.out _ (List.getElem_mem hlt)))
   have HN:=H_ (postsK_next ks k hlt)
   have HL:=H_ (HKP.out (k+1))
   have HB:=H_ hb
   have HO:=H_ HR.out.1
   clear hg3 hRT hb HR hq
   go_wp2_with fail
   refine HC.out.mono ?_
   rintro e w1 ⟨v1,rfl,hb1,ho1⟩
   have H1:=H_ ho1
   replace HO:=H_ (HO.out.below hb1 (le_ _))
   replace HB:=H_ (HB.out.trans (hb1.mono HB.out.size))
   have hs1:=hb1.size
   obtain ⟨xa,xc,rfl,_⟩:=Own.open ho1
   have hlen:=HL.out
   rw [HN.out,List.length_append] at hlen
   clear hb1 ho1 HC
   go_wp2_with (at_builtin;go_loud (refine wpList_app_sl rfl _ _ 22 rfl 3 (.int .i64 0) 1 8 Tryz.underlying22 info_int rfl (by decide) (by decide) rfl HO.out rfl H1.out.sl (ints_one _) ?c1 ?c2 ?_))
   case c1=>omega
   case c2=>have:=HB.out.size;omega
   intro v2 w2 ho2 _ hout2 _
   have H2:Hid (OwnI w.heap.size w2.heap.size 3 w2 v2 (postsK ks (k+1))):=by
    rw [HN.out]
    refine H_ ?_
    unfold OwnI
    rw [List.length_append,ints_append]
    exact ho2
   obtain ⟨ya,yc,rfl,_⟩:=Own.open ho2
   replace HB:=H_ (Below.outside HB.out hout2 (le_ _) HB.out.size)
   clear ho2 hout2
   go_wp2
   go_roundw
   case rel=>exact ⟨k+1,by omega,by go_num,H_ ⟨H2.out,HB.out⟩⟩
   case measure=>simp [intOf];omega
  ·obtain rfl:k=ks.length:=by omega
   have HO:=HR.out.1
   have hcl:=HKP.out ks.length
   generalize postsK ks ks.length=xs at HO hcl HP ⊢
   have HOO:=H_ HO
   have HB:=H_ hb
   have hc0:wr.cell? ⟨b,0,none⟩=some (.int .i64 t.root):=by rw [hb.cell (p:=⟨b,0,none⟩) hbs];exact c0
   clear HO hb HR c0 c1
   go_wp2_with (at_builtin;go_loud (refine wpList_app_lit wr rfl _ _ 22 rfl 3 (.int .i64 0) 1 8 Tryz.underlying22 info_int rfl (by decide) (by decide) rfl HOO.out 1 (ints [t.root]) rfl rfl (ints_one _) rfl ?c1 ?c2 ?_))
   case c1=>omega
   case c2=>have:=HB.out.size;omega
   intro v2 w2 ho2 hout2 _
   have H2:Hid (OwnI w.heap.size w2.heap.size 3 w2 v2 t.post):=by
    rw [HP.out]
    refine H_ ?_
    unfold OwnI
    rw [List.length_append,ints_append]
    exact ho2
   obtain ⟨ya,yc,rfl,_⟩:=Own.open ho2
   replace HB:=H_ (Below.outside HB.out hout2 (le_ _) HB.out.size)
   clear ho2 hout2
   go_wp2
   go_ret
   exact RetV.mk _ rfl ⟨HB.out,H2.out⟩
theorem steps_any:∀ t:KT,StepsC t
 | .leaf n=>steps_node _ (fun k h=>by cases h)
 | .star t=>by
  have ha:=steps_any t
  exact steps_node _ (fun k h=>by
   simp only [KT.kids,List.mem_singleton] at h
   subst h
   exact ha)
 | .bin q a b=>by
  have ha:=steps_any a
  have hb:=steps_any b
  exact steps_node _ (fun k h=>by
   simp only [KT.kids,List.mem_cons,List.mem_nil_iff,or_false] at h
   rcases h with rfl|rfl
   ·exact ha
   ·exact hb)
section
open Go.Maps
open Go.ChangeMaps (setBlock)
theorem keyI:Keyed Tryz.prog 3:=int_keyed Tryz.underlying3
theorem zeroSl (w:World):(zeroValue 22).run Tryz.prog w=.ok (.slice none 0 0) w:=by kernel_rfl
def MapV (bm:Nat) (w:World) (V:List (List Int)):Prop:=
 ∃ es clock,w.heap[bm]?=some (.map es clock)∧(∀ e∈es.toList,∃ k:Nat,k<3∧e.key=.int .i64 (-1-(k:Int))∧V.getD k []≠[]∧SlI (bm+1) w.heap.size w e.val (V.getD k [])) ∧
  ∀ k,k<3→V.getD k []≠[]→∃ e∈es.toList,e.key=.int .i64 (-1-(k:Int))
theorem MapV.lt {bm:Nat} {w:World} {V:List (List Int)} (h:MapV bm w V):bm<w.heap.size:=by
 obtain ⟨es,cl,h1,_⟩:=h
 exact (Array.getElem?_eq_some_iff.1 h1).1
theorem MapV.below {bm:Nat} {w w':World} {V:List (List Int)} (h:MapV bm w V) (hb:Below w.heap.size w w'):MapV bm w' V:=by
 have hlt:=h.lt
 obtain ⟨es,cl,h1,h2,h3⟩:=h
 refine ⟨es,cl,(hb.block bm hlt).trans h1,fun e he=>?_,h3⟩
 obtain ⟨k,g1,g2,g3,g4⟩:=h2 e he
 exact ⟨k,g1,g2,g3,(g4.below hb (le_ _)).wide (le_ _) hb.size⟩
theorem MapV.made (w:World):MapV w.heap.size (w.alloc (.map #[] 0)) [[],[],[]]:=
 ⟨#[],0,heap_alloc_new w _,fun e he=>by simp at he,fun k hk h=>absurd (by match k,hk with | 0,_=>rfl | 1,_=>rfl | 2,_=>rfl) h⟩
theorem keyOf_letter (k:Nat) (hk:k<3):keyOf Tryz.prog 3 (.int .i64 (-1-(k:Int)))=some (.int .i64 (-1-(k:Int))):=
 keyOf_int_mk Tryz.underlying3 (WalkArith.wf_i64 ⟨by omega,by omega⟩)
theorem MapV.find {bm:Nat} {w:World} {V:List (List Int)} {es:Array MapEntry} {k:Nat} (hk:k<3)
  (h2:∀ e∈es.toList,∃ k:Nat,k<3∧e.key=.int .i64 (-1-(k:Int))∧V.getD k []≠[]∧SlI (bm+1) w.heap.size w e.val (V.getD k [])) (h3:∀ k,k<3→V.getD k []≠[]→∃ e∈es.toList,e.key=.int .i64 (-1-(k:Int))) :
  ((Instr.findKey 3 (.int .i64 (-1-(k:Int))) es.toList).run Tryz.prog w=.ok none w∧V.getD k []=[]) ∨
  ∃ j v,(Instr.findKey 3 (.int .i64 (-1-(k:Int))) es.toList).run Tryz.prog w=.ok (some (j,v)) w∧V.getD k []≠[]∧SlI (bm+1) w.heap.size w v (V.getD k []):=by
 have hkeys:∀ e∈es.toList,∃ l,keyOf Tryz.prog 3 e.key=some l:=fun e he=>by
  obtain ⟨k',g1,g2,_⟩:=h2 e he
  exact ⟨_,by rw [g2];exact keyOf_letter k' g1⟩
 rcases keyI.find w (keyOf_letter k hk) es.toList hkeys with ⟨f1,f2⟩|⟨j,e,f1,f2,f3⟩
 ·refine .inl ⟨f1,?_⟩
  by_cases hv:V.getD k []=[]
  ·exact hv
  ·obtain ⟨e,he,hke⟩:=h3 k hk hv
   exact absurd hke (f2 e he)
 ·obtain ⟨k',g1,g2,g3,g4⟩:=h2 e (List.mem_of_getElem? f2)
  have hkk:k'=k:=by
   have f4:Value.int .i64 (-1-(k':Int))=Value.int .i64 (-1-(k:Int)):=g2.symm.trans f3
   have f5:=(Value.int.inj f4).2
   omega
  subst hkk
  exact .inr ⟨j,e.val,f1,g3,g4⟩
theorem MapV.look {bm:Nat} {w:World} {V:List (List Int)} (h:MapV bm w V) (k:Nat) (hk:k<3) :
  ((Instr.lookup 175 (.map (some bm)) (.int .i64 (-1-(k:Int))) true).run Tryz.prog w=.ok (.tuple #[.slice none 0 0,.bool false]) w∧V.getD k []=[]) ∨
  ∃ v,(Instr.lookup 175 (.map (some bm)) (.int .i64 (-1-(k:Int))) true).run Tryz.prog w=.ok (.tuple #[v,.bool true]) w∧V.getD k []≠[]∧SlI (bm+1) w.heap.size w v (V.getD k []):=by
 obtain ⟨es,cl,h1,h2,h3⟩:=h
 have hc:=keyI.check w es.isEmpty (keyOf_letter k hk)
 rcases MapV.find hk h2 h3 with ⟨f1,f2⟩|⟨j,v,f1,f2,f3⟩
 ·exact .inl ⟨by simp [Instr.lookup,run_underlying Tryz.underlying175,MapKept.run_getObj_map h1,hc,f1,zeroSl w,Result.andThen],f2⟩
 ·exact .inr ⟨v,by simp [Instr.lookup,run_underlying Tryz.underlying175,MapKept.run_getObj_map h1,hc,f1,Result.andThen],f2,f3⟩
theorem MapV.store {bm:Nat} {w:World} {V:List (List Int)} (h:MapV bm w V) (hV:V.length=3) (k:Nat) (hk:k<3) (h0:V.getD k []=[]) (v:Value) (xs:List Int) (hx:xs≠[]) (hs:SlI (bm+1) w.heap.size w v xs) :
  ∃ w',(Instr.mapUpdate 175 (.map (some bm)) (.int .i64 (-1-(k:Int))) v).run Tryz.prog w=.ok () w'∧MapV bm w' (V.set k xs)∧Outside bm (bm+1) w w':=by
 obtain ⟨es,cl,h1,h2,h3⟩:=h
 have hc:=keyI.check w false (keyOf_letter k hk)
 rcases MapV.find hk h2 h3 with ⟨f1,_⟩|⟨j,v,f1,f2,_⟩
 ·have hlt:=(Array.getElem?_eq_some_iff.1 h1).1
  have hO:Outside bm (bm+1) w (setBlock w bm (.map (es.push { key:=.int .i64 (-1-(k:Int)),val:=v,born:=cl }) (cl+1))):=by
   refine ⟨rfl,rfl,rfl,by simp [setBlock],fun i _ hi=>?_⟩
   show (w.heap.setIfInBounds bm _)[i]?=w.heap[i]?
   rw [Array.getElem?_setIfInBounds,if_neg (by omega)]
  refine ⟨setBlock w bm (.map (es.push { key:=.int .i64 (-1-(k:Int)),val:=v,born:=cl }) (cl+1)),?_,⟨es.push { key:=.int .i64 (-1-(k:Int)),val:=v,born:=cl },cl+1,?_,?_,?_⟩,hO⟩
  ·simp [Instr.mapUpdate,run_underlying Tryz.underlying175,MapKept.run_getObj_map h1,hc,f1,MapKept.run_setObj_map _ h1,Result.andThen,setBlock]
  ·show (w.heap.setIfInBounds bm _)[bm]?=_
   rw [Array.getElem?_setIfInBounds,if_pos rfl,if_pos hlt]
  ·intro e he
   rw [Array.toList_push,List.mem_append,List.mem_singleton] at he
   have hsz:(setBlock w bm (.map (es.push { key:=.int .i64 (-1-(k:Int)),val:=v,born:=cl }) (cl+1))).heap.size=w.heap.size:=by simp [setBlock]
   rcases he with he|rfl
   ·obtain ⟨k',g1,g2,g3,g4⟩:=h2 e he
    have hne:k≠k':=by intro h;subst h;exact g3 h0
    have hget:(V.set k xs).getD k' []=V.getD k' []:=by simp [List.getD,List.getElem?_set_ne hne]
    refine ⟨k',g1,g2,by rw [hget];exact g3,?_⟩
    rw [hget,hsz]
    exact g4.outside hO (.inr (le_ _))
   ·have hget:(V.set k xs).getD k []=xs:=by simp [List.getD,hV,hk]
    refine ⟨k,hk,rfl,by rw [hget];exact hx,?_⟩
    rw [hget,hsz]
    exact hs.outside hO (.inr (le_ _))
  ·intro k' hk' hv
   by_cases hkk:k=k'
   ·subst hkk
    exact ⟨_,by rw [Array.toList_push];exact List.mem_append_right _ (List.mem_singleton.2 rfl),rfl⟩
   ·have hget:(V.set k xs).getD k' []=V.getD k' []:=by simp [List.getD,List.getElem?_set_ne hkk]
    rw [hget] at hv
    obtain ⟨e,he,hke⟩:=h3 k' hk' hv
    exact ⟨e,by rw [Array.toList_push];exact List.mem_append_left _ he,hke⟩
 ·exact absurd h0 f2
end
def matchL:List KT→List KT→List (List Int)→Option (List (List Int))
 | [],[],V=>some V
 | p :: ps,t :: ts,V=>(matchT p t V).bind (matchL ps ts)
 | _,_,_=>none
theorem root_op (q:Bool):KT.op q=19∨KT.op q=20:=by cases q<;>simp [KT.op]
theorem matchT_node {p t:KT} (hp:p.ok (-3)=true) (ht:t.ok 0=true) (h0:0≤p.root) (V:List (List Int)):matchT p t V=if p.root=t.root then matchL p.kids t.kids V else none:=by
 cases p with
 | leaf n=>
  simp only [KT.root] at h0
  simp only [KT.ok,Bool.and_eq_true,decide_eq_true_eq] at hp
  have hn:¬n<0:=by omega
  rw [matchT,if_neg hn]
  by_cases h:t.root=n
  ·rw [if_pos h,if_pos (show (KT.leaf n).root=t.root from h.symm)]
   cases t with
   | leaf m=>rfl
   | star _=>simp only [KT.root] at h;omega
   | bin r _ _=>have:=root_op r;simp only [KT.root] at h;omega
  ·rw [if_neg h,if_neg (show ¬(KT.leaf n).root=t.root from fun e=>h e.symm)]
 | star p=>
  cases t with
  | leaf m=>
   have hne:¬(KT.star p).root=(KT.leaf m).root:=by simp only [KT.ok,Bool.and_eq_true,decide_eq_true_eq] at ht;simp only [KT.root];omega
   rw [if_neg hne];rfl
  | star t=>rw [if_pos (show (KT.star p).root=(KT.star t).root from rfl)];simp only [matchT,KT.kids,matchL];cases matchT p t V<;>rfl
  | bin r c d=>
   have hne:¬(KT.star p).root=(KT.bin r c d).root:=by have:=root_op r;simp only [KT.root];omega
   rw [if_neg hne];rfl
 | bin q a b=>
  cases t with
  | leaf m=>
   have hne:¬(KT.bin q a b).root=(KT.leaf m).root:=by have:=root_op q;simp only [KT.ok,Bool.and_eq_true,decide_eq_true_eq] at ht;simp only [KT.root];omega
   rw [if_neg hne];rfl
  | star t=>
   have hne:¬(KT.bin q a b).root=(KT.star t).root:=by have:=root_op q;simp only [KT.root];omega
   rw [if_neg hne];rfl
  | bin r c d=>
   by_cases h:q=r
   ·subst h
    rw [if_pos (show (KT.bin q a b).root=(KT.bin q c d).root from rfl),matchT_bin,if_pos rfl]
    simp only [KT.kids,matchL]
    cases matchT a c V with
    | none=>rfl
    | some V1=>
     simp only [Option.bind_some]
     cases matchT b d V1<;>rfl
   ·have hne:¬(KT.bin q a b).root=(KT.bin r c d).root:=by cases q<;>cases r<;>simp [KT.op,KT.root] at h ⊢
    rw [if_neg hne,matchT_bin,if_neg h]
theorem matchL_step {ps ts:List KT} (k:Nat) (h1:k<ps.length) (h2:k<ts.length) (V:List (List Int)):matchL (ps.drop k) (ts.drop k) V=(matchT ps[k] ts[k] V).bind (matchL (ps.drop (k+1)) (ts.drop (k+1))):=by
 rw [List.drop_eq_getElem_cons h1,List.drop_eq_getElem_cons h2,matchL]
theorem matchL_end {ps ts:List KT} (k:Nat) (h1:ps.length≤k) (h2:ts.length≤k) (V:List (List Int)):matchL (ps.drop k) (ts.drop k) V=some V:=by
 rw [List.drop_of_length_le h1,List.drop_of_length_le h2,matchL]
theorem kids_len_root {p t:KT} (hp:p.ok (-3)=true) (ht:t.ok 0=true) (h:p.root=t.root) (h0:0≤p.root):p.kids.length=t.kids.length:=by
 cases p with
 | leaf n=>
  simp only [KT.ok,Bool.and_eq_true,decide_eq_true_eq] at hp
  simp only [KT.root] at h
  cases t with
  | leaf m=>rfl
  | star _=>simp only at h;omega
  | bin r _ _=>have:=root_op r;simp only at h;omega
 | star p=>
  simp only [KT.root] at h
  cases t with
  | leaf m=>simp only [KT.ok,Bool.and_eq_true,decide_eq_true_eq] at ht;simp only at h;omega
  | star _=>rfl
  | bin r _ _=>have:=root_op r;simp only at h;omega
 | bin q a b=>
  have:=root_op q
  simp only [KT.root] at h
  cases t with
  | leaf m=>simp only [KT.ok,Bool.and_eq_true,decide_eq_true_eq] at ht;simp only at h;omega
  | star _=>simp only at h;omega
  | bin r _ _=>rfl
theorem kids_ok {lo:Int} {t k:KT} (h:t.ok lo=true) (hk:k∈t.kids):k.ok lo=true:=by
 cases t with
 | leaf n=>cases hk
 | star t=>simp only [KT.kids,List.mem_singleton] at hk;subst hk;exact h
 | bin q a b=>
  simp only [KT.ok,Bool.and_eq_true] at h
  simp only [KT.kids,List.mem_cons,List.mem_nil_iff,or_false] at hk
  rcases hk with rfl|rfl
  ·exact h.1
  ·exact h.2
def MatI (bm:Nat) (w:World) (r:Option (List (List Int))) (b:Bool) (w':World):Prop:=
 b=r.isSome∧Outside bm (bm+1) w w'∧∀ V',r=some V'→MapV bm w' V'
def MatC (p:KT):Prop:=∀ (t:KT) (V:List (List Int)) (w:World) (lo bm:Nat) (ps pt:Value),p.ok (-3)=true→p.size≤100→t.ok 0=true→t.size≤40→GV V→RT lo none w p ps→RT lo none w t pt→bm<lo→MapV bm w V →
 Calls Tryz.prog 165 #[ps,pt,.map (some bm)] w (RetB (MatI bm w (matchT p t V)))
theorem Outside.same {lo hi:Nat} {w w':World} (h:Below w.heap.size w w'):Outside lo hi w w':=Outside.of_below h (le_ _)
theorem eqL_iff {xs ys:List Int}:eqL xs ys=decide (xs=ys):=by simp [eqL,Bool.beq_eq_decide_eq]
theorem match_letter (n:Int) (hn:n<0):MatC (.leaf n):=by
 intro t V w lo bm ps pt hp _ ht hts hV hps hpt hbm hM
 simp only [KT.ok,Bool.and_eq_true,decide_eq_true_eq] at hp
 obtain ⟨k,hk3,hnk⟩:∃ k:Nat,k<3∧n=-1-(k:Int):=⟨(-1-n).toNat,by omega,by omega⟩
 subst hnk
 have hvk:varK (-1-(k:Int))=k:=by unfold varK;omega
 obtain ⟨qs,⟨b,kv,rfl,_,_,hblk,a,cap,rfl,hpc,hcm,_⟩,_⟩:=hps.node
 have hbs:=hblk.lt
 have HPB:=H_ hblk
 have HST:=H_ (steps_any t lo pt w hpt (by omega))
 obtain ⟨pa,rfl⟩:=hpt.isPtr
 have HM:=H_ hM
 have HV:=H_ hV
 have HR:Hid (matchT (.leaf (-1-(k:Int))) t V=if V.getD k []=[] then some (V.set k t.post) else if V.getD k []=t.post then some V else none):=by
  refine H_ ?_
  rw [matchT,if_pos (by omega),hvk]
 have c0:=hblk.cell 0
 simp only [KT.root] at c0
 have hbw:=hM.lt
 clear hp hM hV hps hpt hblk hvk
 go_enter Tryz.func165,Tryz.ntmps165
 go_wp2_with fail
 refine HST.out.mono ?_
 rintro e w1 ⟨v1,rfl,hb1,ho1⟩
 have c0':w1.cell? ⟨b,0,none⟩=some (.int .i64 (-1-(k:Int))):=by rw [hb1.cell (p:=⟨b,0,none⟩) hbs];exact c0
 have hs1:=hb1.size
 replace HM:=H_ (HM.out.below hb1)
 have HO:=H_ ho1
 have HB:=H_ hb1
 obtain ⟨xa,xc,rfl,_⟩:=Own.open ho1
 have hmlt:=hb1
 clear c0 HST ho1 hmlt hb1
 rcases HM.out.look k hk3 with ⟨hl,h0⟩|⟨v0,hl,h0,hs0⟩
 ·obtain ⟨w2,hup,hM2,hO2⟩:=HM.out.store HV.out.len k hk3 h0 (.slice xa t.post.length xc) t.post t.post_ne (HO.out.sl.wide (by omega) (le_ _))
  have HF:=H_ (And.intro hM2 (Outside.trans (Outside.same (lo:=bm) (hi:=bm+1) HB.out) hO2))
  clear hM2 hO2
  go_wp2
  go_ret
  refine RetB.mk true rfl ⟨by rw [HR.out,if_pos h0];rfl,HF.out.2,fun V' h=>?_⟩
  rw [HR.out,if_pos h0] at h
  injection h with h
  subst h
  exact HF.out.1
 ·generalize V.getD k []=Y at HR hl h0 hs0
  obtain ⟨ya,yc,rfl,_⟩:=Sl.shape hs0
  have HS0:=H_ hs0
  have H0:=H_ h0
  clear hs0 h0
  go_wp2_with fail
  refine (slEq_any _ _ _ _ _ _ Y t.post w1 HS0.out HO.out.sl).mono ?_
  rintro e w2 ⟨rfl,hb2⟩
  have HF:=H_ (And.intro (HM.out.below hb2) (Outside.same (lo:=bm) (hi:=bm+1) (HB.out.trans (hb2.mono HB.out.size))))
  clear hb2
  go_wp2
  go_ret
  refine RetB.mk _ rfl ⟨?_,HF.out.2,fun V' h=>?_⟩
  ·rw [HR.out,if_neg H0.out]
   by_cases he:Y=t.post
   ·rw [if_pos he,eqL_iff,decide_eq_true he];rfl
   ·rw [if_neg he,eqL_iff,decide_eq_false he];rfl
  ·rw [HR.out,if_neg H0.out] at h
   split at h
   ·injection h with h
    subst h
    exact HF.out.1
   ·cases h
theorem match_node (p:KT) (h0:0≤p.root) (ih:∀ k∈p.kids,MatC k):MatC p:=by
 intro t V w lo bm ps pt hp hpz ht hts hV hps hpt hbm hM
 have HMT:=H_ (matchT_node hp ht h0 V)
 have HKL:=H_ (kids_len_root hp ht)
 have HPO:=H_ (fun k (h:k∈p.kids)=>And.intro (kids_ok hp h) (Nat.le_trans (Nat.le_of_lt (KT.kids_size h)) hpz))
 have HTO:=H_ (fun k (h:k∈t.kids)=>And.intro (kids_ok ht h) (Nat.le_trans (Nat.le_of_lt (KT.kids_size h)) hts))
 have HIH:=H_ ih
 obtain ⟨qs,⟨b,kv,rfl,hlb,_,hblk,a,cap,rfl,hpc,hcm,hkid⟩,hstk⟩:=hps.node
 obtain ⟨qs',⟨b',kv',rfl,hlb',_,hblk',a',cap',rfl,hpc',hcm',hkid'⟩,hstk'⟩:=hpt.node
 have hbs:=hblk.lt
 have hbs':=hblk'.lt
 have c0:=hblk.cell 0
 have c1:=hblk.cell 1
 have d0:=hblk'.cell 0
 have d1:=hblk'.cell 1
 have hl:=hstk.length
 have hl':=hstk'.length
 have HS:=H_ hstk
 have HS':=H_ hstk'
 have HKD:=H_ hkid
 have HKD':=H_ hkid'
 have HM:=H_ hM
 have HV:=H_ hV
 have hbw:=hM.lt
 have hkz:=p.kids_len
 unfold maxLen at hcm hcm'
 obtain ⟨pr,hpr⟩:∃ pr,pr=p.root:=⟨_,rfl⟩
 obtain ⟨tr,htr⟩:∃ tr,tr=t.root:=⟨_,rfl⟩
 rw [←hpr] at c0 h0 HKL HMT
 rw [←htr] at d0 HKL HMT
 have hn0:¬pr<0:=by omega
 clear hp hpz ht hts hV hps hpt hM ih hblk hblk' hstk hstk' hkid hkid' hpr htr
 by_cases hr:pr=tr
 ·have hkk:=HKL.out hr h0
  subst hr
  have hne:(pr !=pr)=false:=by simp
  have HR:Hid (matchT p t V=matchL p.kids t.kids V):=H_ (by rw [HMT.out,if_pos rfl])
  obtain ⟨ks,hks⟩:∃ ks,ks=p.kids:=⟨_,rfl⟩
  obtain ⟨ts,hts⟩:∃ ts,ts=t.kids:=⟨_,rfl⟩
  rw [←hks] at HPO HIH hl HS hkz hkk HR
  rw [←hts] at HTO hl' HS' hkk HR
  rw [hl] at c1 hpc
  rw [hl',←hkk] at d1 hpc'
  clear hks hts HKL HMT h0
  go_enter Tryz.func165,Tryz.ntmps165
  go_wp2_with fail
  go_quiet (fail)
  go_wp2
  go_loopw [52] (fun i wr=>∃ (k:Nat) (V':List (List Int)),k≤ks.length∧i=.int .i64 k∧Hid (MapV bm wr V'∧GV V'∧Outside bm (bm+1) w wr∧matchL ks ts V=matchL (ks.drop k) (ts.drop k) V')) (fun i _=>ks.length-(intOf i).toNat)
  case atStart=>exact ⟨0,V,by omega,rfl,H_ ⟨HM.out.below (below_drewN (B_ _ _) _),HV.out,Outside.same (below_drewN (B_ _ _) _),rfl⟩⟩
  case round=>
   obtain ⟨k,V',hk,rfl,HQ⟩:=hrel
   have HO:=H_ HQ.out.2.2.1
   have hsz:=HO.out.size
   by_cases hlt:k<ks.length
   ·have hlt2:k<ts.length:=by omega
    have h1q:k<qs.length:=by omega
    have h2q:k<qs'.length:=by omega
    obtain ⟨g,off,rfl,g1,_,g2,g3⟩:=HKD.out k h1q
    obtain ⟨g',off',rfl,g1',_,g2',g3'⟩:=HKD'.out k h2q
    obtain ⟨q,hq⟩:∃ q,q=qs[k]:=⟨_,rfl⟩
    obtain ⟨q',hq'⟩:∃ q',q'=qs'[k]:=⟨_,rfl⟩
    rw [←hq] at g3
    rw [←hq'] at g3'
    have e1:wr.cell? ⟨g,off+k,none⟩=some q:=(World.cell?_of_block (w:=w) (a:=⟨g,off+k,none⟩) (HO.out.block g g2 (by omega))).trans g3
    have e2:wr.cell? ⟨g',off'+k,none⟩=some q':=(World.cell?_of_block (w:=w) (a:=⟨g',off'+k,none⟩) (HO.out.block g' g2' (by omega))).trans g3'
    have e3:wr.cell? ⟨b',1,none⟩=some (.slice (some ⟨g',off',none⟩) ks.length cap'):=(World.cell?_of_block (w:=w) (a:=⟨b',1,none⟩) (HO.out.block b' hbs' (by omega))).trans d1
    have r1:=(HS.out.get k h1q hlt).outside HO.out (by omega)
    have r2:=(HS'.out.get k h2q hlt2).outside HO.out (by omega)
    rw [←hq] at r1
    rw [←hq'] at r2
    obtain ⟨qa,rfl⟩:=r1.isPtr
    obtain ⟨qa',rfl⟩:=r2.isPtr
    have m1:=HPO.out _ (List.getElem_mem hlt)
    have m2:=HTO.out _ (List.getElem_mem hlt2)
    have HC:=H_ (HIH.out ks[k] (List.getElem_mem hlt) ts[k] V' wr lo bm _ _ m1.1 m1.2 m2.1 m2.2 HQ.out.2.1 r1 r2 hbm HQ.out.1)
    have HGV:Hid (∀ V'',matchT ks[k] ts[k] V'=some V''→GV V''):=H_ (fun V'' hx=>matchT_good ks[k] ts[k] V' V'' m2.1 m2.2 HQ.out.2.1 hx)
    have HST:=H_ (HQ.out.2.2.2.trans (matchL_step k hlt hlt2 V'))
    generalize matchT ks[k] ts[k] V'=res at HC HGV HST
    clear g3 g3' hq hq' r1 r2 m1 m2 HQ
    go_wp2_with fail
    refine HC.out.mono ?_
    rintro e w1 ⟨bb,rfl,rfl,ho,hx⟩
    have HO1:=H_ (HO.out.trans ho)
    clear ho HC
    cases res with
    | none=>
     simp only [Option.isSome_none]
     go_wp2
     go_ret
     refine RetB.mk _ rfl ⟨by rw [HR.out,HST.out];rfl,HO1.out,fun V'' h=>?_⟩
     rw [HR.out,HST.out] at h
     cases h
    | some V1=>
     have HX:=H_ (hx V1 rfl)
     clear hx
     simp only [Option.isSome_some]
     go_wp2
     go_roundw
     case rel=>exact ⟨k+1,V1,by omega,by go_num,H_ ⟨HX.out,HGV.out V1 rfl,HO1.out,HST.out⟩⟩
     case measure=>simp [intOf];omega
   ·obtain rfl:k=ks.length:=by omega
    have HF:Hid (matchT p t V=some V'):=H_ (by rw [HR.out,HQ.out.2.2.2];exact matchL_end _ (le_ _) (by omega) V')
    go_wp2
    go_ret
    refine RetB.mk _ rfl ⟨by rw [HF.out];rfl,HO.out,fun V'' h=>?_⟩
    rw [HF.out] at h
    injection h with h
    subst h
    exact HQ.out.1
 ·have hne:(pr !=tr)=true:=by simpa using hr
  have HR:Hid (matchT p t V=none):=H_ (by rw [HMT.out,if_neg hr])
  clear hr
  go_enter Tryz.func165,Tryz.ntmps165
  go_wp2_with fail
  go_quiet (fail)
  go_wp2
  go_ret
  refine RetB.mk _ rfl ⟨by rw [HR.out];rfl,Outside.same (below_drewN (B_ _ _) _),fun V' h=>?_⟩
  rw [HR.out] at h
  cases h
theorem match_any:∀ p:KT,MatC p
 | .leaf n=>by
  by_cases h:n<0
  ·exact match_letter n h
  ·exact match_node (.leaf n) (show 0≤n by omega) (fun k h=>by cases h)
 | .star p=>by
  have ha:=match_any p
  exact match_node _ (by simp [KT.root]) (fun k h=>by
   simp only [KT.kids,List.mem_singleton] at h
   subst h
   exact ha)
 | .bin q a b=>by
  have ha:=match_any a
  have hb:=match_any b
  exact match_node _ (by have:=root_op q;simp only [KT.root];omega) (fun k h=>by
   simp only [KT.kids,List.mem_cons,List.mem_nil_iff,or_false] at h
   rcases h with rfl|rfl
   ·exact ha
   ·exact hb)
def RetVE (P:Value→Value→World→Prop) (e:Ending) (w':World):Prop:=∃ v x,e=.returned (.tuple #[v,x])∧P v x w'
def DoR (w:World) (r:Option (List Int)) (v x:Value) (w':World):Prop:=
 Below w.heap.size w w'∧match r with
  | some out=>x=.nilIface∧OwnI w.heap.size w'.heap.size 3 w' v out
  | none=>v=.slice none 0 0∧∃ g,x=.iface 171 (.pointer (some ⟨g,0,none⟩))∧w.heap.size≤g
theorem DoR.fail {w w':World} {r:Option (List Int)} {g:Nat} (hr:r=none) (hb:Below w.heap.size w w') (hg:w.heap.size≤g):DoR w r (.slice none 0 0) (.iface 171 (.pointer (some ⟨g,0,none⟩))) w':=by
 subst hr
 exact ⟨hb,rfl,g,rfl,hg⟩
abbrev aggM (m:Mv):Value:=.agg #[.int .i64 m.which,.bool m.back,.int .i64 m.at_]
theorem do_norule (ve:Value) (e:List Int) (m:Mv) (w:World) (hr:isR m.which=false) :
  Calls Tryz.prog 122 #[ve,aggM m] w (RetVE (DoR w (moveV e m))):=by
 have HR:=H_ (moveV_rule (e:=e) hr)
 have hr':inB m.which 0 20=false:=hr
 go_enter Tryz.func122,Tryz.ntmps122
 go_wp2_with (go_at_call 145;refine (isRule_any _ _).mono ?_;rintro e w' ⟨rfl,rfl⟩)
 go_region
 all_goals (
  go_wp2
  refine bodyPost_ret (v:=.tuple #[.slice none 0 0,.iface 171 (.pointer (some ⟨w.heap.size+1,0,none⟩))]) (by simp [results,Tryz.results122,go_sem]) rfl ⟨_,_,rfl,DoR.fail HR.out (Below.drew (((B_ _ _).alloc (le_ _) _).alloc (by simp) _)) (by omega)⟩)
theorem do_nostep (ve:Value) (e:List Int) (m:Mv) (w:World) (hx:RdI w ve e) (hr:isR m.which=true) (ha:inB m.at_ 0 (e.length-1)=false) :
  Calls Tryz.prog 122 #[ve,aggM m] w (RetVE (DoR w (moveV e m))):=by
 have HR:=H_ (moveV_at (e:=e) ha)
 have hr':inB m.which 0 20=true:=hr
 obtain ⟨a,cap,rfl,hcap,hcm,_⟩:=hx.open
 have hc:m.at_<0∨(0≤m.at_∧(e.length:Int)≤m.at_):=by simp [inB] at ha;omega
 clear hx ha
 rcases hc with h1|⟨h1,h2⟩
 all_goals (
  go_enter Tryz.func122,Tryz.ntmps122
  go_wp2_with (go_at_call 145;refine (isRule_any _ _).mono ?_;rintro e w' ⟨rfl,rfl⟩)
  go_region
  all_goals (
   go_wp2
   refine bodyPost_ret (v:=.tuple #[.slice none 0 0,.iface 171 (.pointer (some ⟨w.heap.size+1,0,none⟩))]) (by simp [results,Tryz.results122,go_sem]) rfl ⟨_,_,rfl,DoR.fail HR.out (Below.drew (((B_ _ _).alloc (le_ _) _).alloc (by simp) _)) (by omega)⟩))
end
end Go.Proofs.YtfnnhimopokpnaaGreatDoor
