/- Lemmas for this seat; no condition. -/
import Derived.Test.YtfnnhimopokpnaaGreatDoorRows
import Derived.WalkSpells
import Derived.WalkLawsBesides
import Derived.Lib.Hide
import Derived.BigQuiet
import Derived.ProofKit
import Derived.OpenShut
import Derived.ShutString
namespace Go.Proofs.YtfnnhimopokpnaaGreatDoor
open Go.RowKit
set_option maxRecDepth 100000
set_option maxHeartbeats 0
set_option linter.unusedVariables false
theorem H_ {p : Prop} (h : p) : Hid p := Lib.hid h
theorem le_ (n : Nat) : n ≤ n := Nat.le_refl n
theorem B_ (n : Nat) (w : World) : Below n w w := Below.refl n w
structure Outside (lo hi:Nat) (w w':World):Prop where
 os:w'.os=w.os
 tape:w'.tape=w.tape
 output:w'.output=w.output
 size:w.heap.size≤w'.heap.size
 block:∀ k,k<w.heap.size→(k<lo∨hi≤k)→w'.heap[k]?=w.heap[k]?
def Sl (sz lo hi:Nat) (w:World) (v:Value) (n:Nat) (xs:List Value):Prop:=
 ∃ a cap,v=.slice a n cap∧n≤cap∧cap≤maxLen∧xs.length=n*sz∧(a=none→cap=0) ∧
  ∀ i,i<xs.length→∃ b off,a=some ⟨b,off,none⟩∧lo≤b∧b<hi∧b<w.heap.size∧w.cell? ⟨b,off+i,none⟩=xs[i]?
def ints (xs:List Int):List Value:=xs.map (Value.int .i64)
def SlI (lo hi:Nat) (w:World) (v:Value) (xs:List Int):Prop:=Sl 1 lo hi w v xs.length (ints xs)
theorem ints_length (xs:List Int):(ints xs).length=xs.length:=by simp [ints]
theorem ints_get (xs:List Int) (i:Nat) (h:i<xs.length):(ints xs)[i]?=some (.int .i64 xs[i]):=by simp [ints,h]
theorem Sl.below {sz lo hi B n:Nat} {w w':World} {v:Value} {xs:List Value} (h:Sl sz lo hi w v n xs) (hb:Below B w w') (hB:hi≤B):Sl sz lo hi w' v n xs:=by
 obtain ⟨a,cap,h1,h2,h3,h4,h5,h6⟩:=h
 refine ⟨a,cap,h1,h2,h3,h4,h5,fun i hi'=>?_⟩
 obtain ⟨b,off,e,e1,e2,e3,e4⟩:=h6 i hi'
 exact ⟨b,off,e,e1,e2,Nat.lt_of_lt_of_le e3 hb.size,by rw [hb.cell (p:=⟨b,_,none⟩) (Nat.lt_of_lt_of_le e2 hB)];exact e4⟩
theorem Sl.wide {sz lo hi lo' hi' n:Nat} {w:World} {v:Value} {xs:List Value} (h:Sl sz lo hi w v n xs) (h1:lo'≤lo) (h2:hi≤hi'):Sl sz lo' hi' w v n xs:=by
 obtain ⟨a,cap,h1',h2',h3,h4,h5,h6⟩:=h
 refine ⟨a,cap,h1',h2',h3,h4,h5,fun i hi'=>?_⟩
 obtain ⟨b,off,e,e1,e2,e3,e4⟩:=h6 i hi'
 exact ⟨b,off,e,by omega,by omega,e3,e4⟩
theorem Sl.outside {sz lo hi lo' hi' n:Nat} {w w':World} {v:Value} {xs:List Value} (h:Sl sz lo hi w v n xs) (hb:Outside lo' hi' w w') (hd:hi≤lo'∨hi'≤lo):Sl sz lo hi w' v n xs:=by
 obtain ⟨a,cap,h1,h2,h3,h4,h5,h6⟩:=h
 refine ⟨a,cap,h1,h2,h3,h4,h5,fun i hi'=>?_⟩
 obtain ⟨b,off,e,e1,e2,e3,e4⟩:=h6 i hi'
 refine ⟨b,off,e,e1,e2,Nat.lt_of_lt_of_le e3 hb.size,?_⟩
 rw [World.cell?_of_block (w:=w) (a:=⟨b,off+i,none⟩) (hb.block b e3 (by omega))]
 exact e4
theorem Below.outside {B lo hi:Nat} {a b c:World} (h:Below B a b) (k:Outside lo hi b c) (hB:B≤lo) (hs:B≤b.heap.size):Below B a c:=
 ⟨k.os.trans h.os,k.tape.trans h.tape,k.output.trans h.output,Nat.le_trans h.size k.size,fun i hi=>(k.block i (by omega) (by omega)).trans (h.block i hi)⟩
def Own (sz lo hi e:Nat) (w:World) (v:Value) (n:Nat) (xs:List Value):Prop:=
 w.ownsRow lo e sz v n xs∧∀ g,v.ownBlock=some g→g<hi
theorem Own.sl {sz lo hi e n:Nat} {w:World} {v:Value} {xs:List Value} (h:Own sz lo hi e w v n xs):Sl sz lo hi w v n xs:=by
 obtain ⟨⟨hlen,h⟩,hlt⟩:=h
 rcases h with ⟨rfl,rfl⟩|⟨g,cap,cur,rfl,hb,hg,hnc,hcm,hcs,htake⟩
 ·refine ⟨none,0,rfl,le_ _,by simp [maxLen],hlen,fun _=>rfl,fun i hi=>?_⟩
  simp [hlen] at hi
 ·refine ⟨_,cap,rfl,hnc,hcm,hlen,(by intro h;cases h),fun i hi=>?_⟩
  have hgs:=(Array.getElem?_eq_some_iff.1 hg).1
  refine ⟨g,0,rfl,hb,hlt g rfl,hgs,?_⟩
  rw [Nat.zero_add,cell_of_row w g i cur e (0,0) hg,←htake,List.getElem?_take,if_pos (by omega)]
  simp
theorem Own.below {sz lo hi e B n:Nat} {w w':World} {v:Value} {xs:List Value} (h:Own sz lo hi e w v n xs) (hb:Below B w w') (hB:hi≤B):Own sz lo hi e w' v n xs:=by
 obtain ⟨⟨hlen,h⟩,hlt⟩:=h
 refine ⟨⟨hlen,?_⟩,hlt⟩
 rcases h with h|⟨g,cap,cur,rfl,h1,hg,rest⟩
 ·exact .inl h
 ·exact .inr ⟨g,cap,cur,rfl,h1,by rw [hb.block g (Nat.lt_of_lt_of_le (hlt g rfl) hB)];exact hg,rest⟩
theorem Own.outside {sz lo hi lo' hi' e n:Nat} {w w':World} {v:Value} {xs:List Value} (h:Own sz lo hi e w v n xs) (hb:Outside lo' hi' w w') (hd:hi≤lo'∨hi'≤lo):Own sz lo hi e w' v n xs:=by
 obtain ⟨⟨hlen,h⟩,hlt⟩:=h
 refine ⟨⟨hlen,?_⟩,hlt⟩
 rcases h with h|⟨g,cap,cur,rfl,h1,hg,rest⟩
 ·exact .inl h
 ·have hgs:=(Array.getElem?_eq_some_iff.1 hg).1
  have:=hlt g rfl
  exact .inr ⟨g,cap,cur,rfl,h1,by rw [hb.block g hgs (by omega)];exact hg,rest⟩
def OwnI (lo hi e:Nat) (w:World) (v:Value) (xs:List Int):Prop:=Own 1 lo hi e w v xs.length (ints xs)
theorem OwnI.sl {lo hi e:Nat} {w:World} {v:Value} {xs:List Int} (h:OwnI lo hi e w v xs):SlI lo hi w v xs:=Own.sl h
theorem OwnI.below {lo hi e B:Nat} {w w':World} {v:Value} {xs:List Int} (h:OwnI lo hi e w v xs) (hb:Below B w w') (hB:hi≤B):OwnI lo hi e w' v xs:=Own.below h hb hB
theorem OwnI.outside {lo hi lo' hi' e:Nat} {w w':World} {v:Value} {xs:List Int} (h:OwnI lo hi e w v xs) (hb:Outside lo' hi' w w') (hd:hi≤lo'∨hi'≤lo):OwnI lo hi e w' v xs:=Own.outside h hb hd
theorem SlI.below {lo hi B:Nat} {w w':World} {v:Value} {xs:List Int} (h:SlI lo hi w v xs) (hb:Below B w w') (hB:hi≤B):SlI lo hi w' v xs:=Sl.below h hb hB
theorem SlI.outside {lo hi lo' hi':Nat} {w w':World} {v:Value} {xs:List Int} (h:SlI lo hi w v xs) (hb:Outside lo' hi' w w') (hd:hi≤lo'∨hi'≤lo):SlI lo hi w' v xs:=Sl.outside h hb hd
theorem SlI.wide {lo hi lo' hi':Nat} {w:World} {v:Value} {xs:List Int} (h:SlI lo hi w v xs) (h1:lo'≤lo) (h2:hi≤hi'):SlI lo' hi' w v xs:=Sl.wide h h1 h2
theorem SlI.open {lo hi:Nat} {w:World} {v:Value} {xs:List Int} (h:SlI lo hi w v xs) :
  ∃ a cap,v=.slice a xs.length cap∧xs.length≤cap∧cap≤maxLen ∧
   ∀ i,(h:i<xs.length)→∃ b off,a=some ⟨b,off,none⟩∧lo≤b∧b<hi∧b<w.heap.size∧w.cell? ⟨b,off+i,none⟩=some (.int .i64 xs[i]):=by
 obtain ⟨a,cap,h1,h2,h3,h4,h5,h6⟩:=h
 refine ⟨a,cap,h1,h2,h3,fun i hi'=>?_⟩
 obtain ⟨b,off,e,e1,e2,e3,e4⟩:=h6 i (by simpa [ints] using hi')
 exact ⟨b,off,e,e1,e2,e3,by rw [e4,ints_get xs i hi']⟩
def fill (xs:List Value) (z:Value) (k:Nat):List Value:=xs.take k++List.replicate (xs.length-k) z
theorem fill_zero (xs:List Value) (z:Value):fill xs z 0=List.replicate xs.length z:=by simp [fill]
theorem fill_all (xs:List Value) (z:Value) (k:Nat) (h:xs.length≤k):fill xs z k=xs:=by
 simp [fill,List.take_of_length_le h,show xs.length-k=0 by omega]
theorem fill_get (xs:List Value) (z:Value) (k:Nat) (h:k<xs.length):(fill xs z k)[k]?=some z:=by
 have h1:(xs.take k).length=k:=by simp;omega
 rw [fill,List.getElem?_append_right (by omega),h1,Nat.sub_self,List.getElem?_replicate,if_pos (by omega)]
theorem fill_set (xs:List Value) (z:Value) (k:Nat) (h:k<xs.length) (u:Value) (hu:xs[k]?=some u):(fill xs z k).set k u=fill xs z (k+1):=by
 have h1:(xs.take k).length=k:=by simp;omega
 unfold fill
 rw [List.set_append_right _ _ (by omega),h1,Nat.sub_self,show xs.length-k=(xs.length-(k+1))+1 by omega,List.replicate_succ,List.set_cons_zero,
  List.take_add_one,hu]
 simp
def seqI (k:Int) (n:Nat):List Int:=(List.range n).map (fun i=>k+(i:Nat))
theorem seqI_length (k:Int) (n:Nat):(seqI k n).length=n:=by simp [seqI]
theorem seqI_get (k:Int) (n i:Nat) (h:i<n):(ints (seqI k n))[i]?=some (.int .i64 (k+i)):=by simp [ints,seqI,h]
def over (ys xs:List Value) (k:Nat):List Value:=ys.take k++xs.drop k
theorem over_zero (ys xs:List Value):over ys xs 0=xs:=by simp [over]
theorem over_all (ys xs:List Value) (k:Nat) (h:xs.length≤k) (h2:ys.length≤k):over ys xs k=ys:=by
 simp [over,List.take_of_length_le h2,h]
theorem over_length (ys xs:List Value) (k:Nat) (h:ys.length=xs.length):(over ys xs k).length=xs.length:=by
 simp [over];omega
theorem over_set (ys xs:List Value) (k:Nat) (h:ys.length=xs.length) (hk:k<xs.length) (u:Value) (hu:ys[k]?=some u):(over ys xs k).set k u=over ys xs (k+1):=by
 have h1:(ys.take k).length=k:=by simp;omega
 unfold over
 rw [List.set_append_right _ _ (by omega),h1,Nat.sub_self,List.drop_eq_getElem_cons hk,List.set_cons_zero,List.take_add_one,hu]
 simp
theorem over_get (ys xs:List Value) (k:Nat) (h:ys.length=xs.length) (hk:k<xs.length):(over ys xs k)[k]?=xs[k]?:=by
 have h1:(ys.take k).length=k:=by simp;omega
 rw [over,List.getElem?_append_right (by omega),h1,Nat.sub_self,List.getElem?_drop]
 simp
theorem Outside.refl (lo hi:Nat) (w:World):Outside lo hi w w:=⟨rfl,rfl,rfl,le_ _,fun _ _ _=>rfl⟩
theorem Outside.trans {lo hi:Nat} {a b c:World} (h:Outside lo hi a b) (k:Outside lo hi b c):Outside lo hi a c:=
 ⟨k.os.trans h.os,k.tape.trans h.tape,k.output.trans h.output,Nat.le_trans h.size k.size,fun i hi h2=>(k.block i (Nat.lt_of_lt_of_le hi h.size) h2).trans (h.block i hi h2)⟩
theorem Outside.setCell {lo hi:Nat} {a w:World} (h:Outside lo hi a w) {p:Addr} (h1:lo≤p.block) (h2:p.block<hi) (u:Value):Outside lo hi a (w.setCell p u):=
 h.trans ⟨rfl,rfl,rfl,by simp [World.setCell],fun k _ hk=>Below.heap_setCell _ _ _ _ (by omega)⟩
theorem Outside.of_below {lo hi B:Nat} {w w':World} (h:Below B w w') (hB:w.heap.size≤B):Outside lo hi w w':=
 ⟨h.os,h.tape,h.output,h.size,fun k hk _=>h.block k (by omega)⟩
theorem Outside.wide {lo hi lo' hi':Nat} {w w':World} (h:Outside lo hi w w') (h1:lo'≤lo) (h2:hi≤hi'):Outside lo' hi' w w':=
 ⟨h.os,h.tape,h.output,h.size,fun k hk hd=>h.block k hk (by omega)⟩
theorem Outside.fresh {lo hi lo' hi':Nat} {a b c:World} (h:Outside lo hi a b) (k:Outside lo' hi' b c) (hlo:a.heap.size≤lo'):Outside lo hi a c:=
 ⟨k.os.trans h.os,k.tape.trans h.tape,k.output.trans h.output,Nat.le_trans h.size k.size,fun i hi h2=>(k.block i (Nat.lt_of_lt_of_le hi h.size) (.inl (by omega))).trans (h.block i hi h2)⟩
theorem Outside.below {lo hi B:Nat} {a b c:World} (h:Outside lo hi a b) (k:Below B b c) (hB:a.heap.size≤B):Outside lo hi a c:=
 ⟨k.os.trans h.os,k.tape.trans h.tape,k.output.trans h.output,Nat.le_trans h.size k.size,fun i hi h2=>(k.block i (by omega)).trans (h.block i hi h2)⟩
theorem Own.open {sz lo hi e n:Nat} {w:World} {v:Value} {xs:List Value} (h:Own sz lo hi e w v n xs) :
  ∃ a cap,v=.slice a n cap∧n≤cap∧cap≤maxLen∧xs.length=n*sz∧(0<n→∃ g,a=some ⟨g,0,none⟩∧lo≤g∧g<hi):=by
 obtain ⟨⟨hlen,h⟩,hlt⟩:=h
 rcases h with ⟨rfl,rfl⟩|⟨g,cap,cur,rfl,h1,hg,hnc,hcm,_⟩
 ·exact ⟨none,0,rfl,le_ _,by simp [maxLen],hlen,by omega⟩
 ·exact ⟨_,cap,rfl,hnc,hcm,hlen,fun _=>⟨g,rfl,h1,hlt g rfl⟩⟩
theorem SlI.get {lo hi n cap:Nat} {w:World} {a:Option Addr} {xs:List Int} (h:SlI lo hi w (.slice a n cap) xs) (i:Nat) (hi':i<xs.length) :
  ∃ b off,a=some ⟨b,off,none⟩∧lo≤b∧b<hi∧b<w.heap.size∧w.cell? ⟨b,off+i,none⟩=some (.int .i64 xs[i]):=by
 obtain ⟨a',cap',e,_,_,hc⟩:=h.open
 injection e with e1 _ _
 subst e1
 exact hc i hi'
def RetB (P:Bool→World→Prop) (e:Ending) (w':World):Prop:=∃ x,e=.returned (.bool x)∧P x w'
def RetI (P:Int→World→Prop) (e:Ending) (w':World):Prop:=∃ x,e=.returned (.int .i64 x)∧P x w'
def RetV (P:Value→World→Prop) (e:Ending) (w':World):Prop:=∃ x,e=.returned x∧P x w'
theorem RetB.mk {P:Bool→World→Prop} {e:Ending} {w':World} (x:Bool) (h:e=.returned (.bool x)) (hp:P x w'):RetB P e w':=⟨x,h,hp⟩
theorem RetI.mk {P:Int→World→Prop} {e:Ending} {w':World} (x:Int) (h:e=.returned (.int .i64 x)) (hp:P x w'):RetI P e w':=⟨x,h,hp⟩
theorem RetV.mk {P:Value→World→Prop} {e:Ending} {w':World} (x:Value) (h:e=.returned x) (hp:P x w'):RetV P e w':=⟨x,h,hp⟩
def slLen:Value→Nat | .slice _ n _=>n | _=>0
theorem Sl.shape {sz lo hi n:Nat} {w:World} {v:Value} {xs:List Value} (h:Sl sz lo hi w v n xs):∃ a cap,v=.slice a n cap∧n≤cap∧cap≤maxLen:=by
 obtain ⟨a,cap,h1,h2,h3,_⟩:=h
 exact ⟨a,cap,h1,h2,h3⟩
theorem info_int:(Tryz.prog.info? 3).map (fun i=>(i.zero,i.size,i.bytes))=some (some (.int .i64 0),1,8):=by kernel_rfl
theorem toIntS_any (lo hi:Nat) (v:Value) (xs:List Int) (w:World) (hx:SlI lo hi w v xs) (hm:xs.length≤1048576) :
  Calls Tryz.prog 35 #[v] w fun e w'=>
   ∃ v',e=.returned v'∧Below w.heap.size w w'∧OwnI w.heap.size w'.heap.size 3 w' v' xs:=by
 obtain ⟨i0,hi,hz0,hz1,hz2⟩:=info_parts info_int
 obtain ⟨a,cap,rfl,hcap,hcm,hc⟩:=hx.open
 clear hx hcm
 go_enter Tryz.func35,Tryz.ntmps35
 go_wp2_with ((at_make;refine wpList_make_full _ rfl _ _ 22 rfl w.heap.size 3 i0 (.int .i64 0) 1 Tryz.underlying22 hi hz0 hz1 .i64 .i64 xs.length xs.length xs.length rfl rfl rfl rfl ?c1 ?c2 ?c3 ?c4))
 case c1=>rw [hz2];omega
 case c2=>simp [maxLen];omega
 case c3=>exact le_ _
 case c4=>
  intro w1 hown hg
  have hb1:Below w.heap.size w w1:=(B_ _ _).grown hg (le_ _) (by simp)
  rw [toList_madeCells_one] at hown
  clear hg hi hz0 hz1 hz2
  go_wp2
  go_loopw [4] (fun i wr=>∃ k,k≤xs.length∧i=.int .i64 k∧wr.ownsRow w.heap.size 3 1 (.slice (some ⟨w.heap.size,0,none⟩) xs.length xs.length) xs.length (fill (ints xs) (.int .i64 0) k)∧Below w.heap.size w wr) (fun i _=>xs.length-(intOf i).toNat)
  case atStart=>exact ⟨0,by omega,rfl,by rw [fill_zero,ints_length];exact hown,hb1⟩
  case round=>
   obtain ⟨k,hk,rfl,hown,hbk⟩:=hrel
   clear hb1
   by_cases hlt:k<xs.length
   ·obtain ⟨b,off,rfl,_,_,hbs,hck⟩:=hc k hlt
    have hck':wr.cell? ⟨b,off+k,none⟩=some (.int .i64 xs[k]):=by
     rw [hbk.cell (p:=⟨b,off+k,none⟩) hbs];exact hck
    have hne:b≠w.heap.size:=by omega
    have hw1:=hown.cellAt k (by omega)
    have hw2:=hown.frozenAt k
    have HS:=H_ (hown.stored k (.int .i64 xs[k]))
    have HBS:=H_ (hbk.setCell (p:=⟨w.heap.size,k,none⟩) (le_ _) (.int .i64 xs[k]))
    have hw3:∃ x,wr.cell? ⟨w.heap.size,k,none⟩=some x:=by
     refine ⟨.int .i64 0,?_⟩
     rw [hw1];exact fill_get _ _ _ (by rw [ints_length];exact hlt)
    obtain ⟨x,hw3⟩:=hw3
    clear hc hck hw1 hown hbk
    go_wp2
    go_roundw
    case rel=>
     exact ⟨k+1,by omega,by go_num,by rw [←fill_set _ _ k (by rw [ints_length];exact hlt) _ (ints_get xs k hlt)];exact HS.out.1,HBS.out⟩
    case measure=>simp [intOf];omega
   ·obtain rfl:k=xs.length:=by omega
    go_wp2
    go_ret
    rw [fill_all _ _ _ (by rw [ints_length];exact le_ _)] at hown
    exact ⟨_,rfl,hbk,hown,fun g hg=>(hown.lt g hg).2⟩
theorem ret_bool {a b:Bool} (h:a=b):Ending.returned (.bool a)=.returned (.bool b):=by rw [h]
def inB (n lo hi:Int):Bool:=decide (lo≤n)&&decide (n≤hi)
theorem l1In_any (n lo hi:Int) (w:World) :
  Calls Tryz.prog 101 #[.int .i64 n,.int .i64 lo,.int .i64 hi] w fun e w'=>e=.returned (.bool (inB n lo hi))∧w=w':=by
 go_enter Tryz.func101,Tryz.ntmps101
 by_cases h1:lo≤n
 ·by_cases h2:n≤hi
  ·go_wp2
   go_ret
   exact ⟨ret_bool (by simp [inB,h1,h2]),rfl⟩
  ·go_wp2
   go_ret
   exact ⟨ret_bool (by simp [inB];omega),rfl⟩
 ·go_wp2
  go_ret
  exact ⟨ret_bool (by simp [inB];omega),rfl⟩
def eqL (xs ys:List Int):Bool:=xs==ys
theorem eqL_len {xs ys:List Int} (h:xs.length≠ys.length):eqL xs ys=false:=by
 unfold eqL;rw [beq_eq_false_iff_ne];intro e;exact h (by rw [e])
theorem eqL_ne {xs ys:List Int} {k:Nat} (h1:k<xs.length) (h2:k<ys.length) (h:xs[k]≠ys[k]):eqL xs ys=false:=by
 unfold eqL;rw [beq_eq_false_iff_ne];intro e;subst e;exact h rfl
theorem eqL_all {xs ys:List Int} (hl:xs.length=ys.length) (h:∀ j (h1:j<xs.length) (h2:j<ys.length),xs[j]=ys[j]):eqL xs ys=true:=by
 unfold eqL;rw [beq_iff_eq];exact List.ext_getElem hl h
theorem eqIntS_any (lo hi lo' hi':Nat) (v v':Value) (xs ys:List Int) (w:World) (hx:SlI lo hi w v xs) (hy:SlI lo' hi' w v' ys) (hm:xs.length≤1048576) :
  Calls Tryz.prog 38 #[v,v'] w fun e w'=>e=.returned (.bool (eqL xs ys))∧∃ m,w'=w.drewN m:=by
 obtain ⟨a,cap,rfl,hcap,hcm,hc⟩:=hx.open
 obtain ⟨a',cap',rfl,hcap',hcm',hc'⟩:=hy.open
 clear hx hcm hy hcm' hcap hcap'
 by_cases hl:xs.length=ys.length
 ·have HL:=H_ hl
  have hl1:((xs.length:Int) !=ys.length)=false:=by simp [hl]
  have hm':ys.length≤1048576:=by omega
  clear hl
  go_enter Tryz.func38,Tryz.ntmps38
  go_wp2
  go_loopw [5] (fun i wr=>∃ k m:Nat,k≤xs.length∧i=.int .i64 k∧(∀ j (h1:j<k) (h2:j<xs.length) (h3:j<ys.length),xs[j]=ys[j])∧wr=w.drewN m) (fun i _=>xs.length-(intOf i).toNat)
  case atStart=>exact ⟨0,0,by omega,rfl,by intro j h;omega,rfl⟩
  case round=>
   obtain ⟨k,m,hk,rfl,hj,rfl⟩:=hrel
   have HJ:=H_ hj
   clear hj
   by_cases hlt:k<xs.length
   ·have hlt':k<ys.length:=by have:=HL.out;omega
    obtain ⟨b,off,rfl,_,_,hbs,hck⟩:=hc k hlt
    obtain ⟨b',off',rfl,_,_,hbs',hck'⟩:=hc' k hlt'
    clear hc hc'
    by_cases he:xs[k]=ys[k]
    ·have HE:=H_ he
     have he1:(xs[k] !=ys[k])=false:=by simp [he]
     clear he
     go_wp2
     go_quiet (fail)
     go_wp2
     go_roundw
     case rel=>
      refine ⟨k+1,m+nq,by omega,by go_num,?_,by first | rfl | rw [World.drewN_drewN]⟩
      intro j h1 h2 h3
      rcases Nat.lt_or_ge j k with h|h
      ·exact HJ.out j h h2 h3
      ·obtain rfl:j=k:=by omega
       exact HE.out
     case measure=>simp [intOf];omega
    ·have HE:=H_ he
     have he1:(xs[k] !=ys[k])=true:=by simp [he]
     clear he
     go_wp2
     go_quiet (fail)
     go_wp2
     go_ret
     exact ⟨ret_bool (eqL_ne hlt hlt' HE.out).symm,m+nq,by first | rfl | rw [World.drewN_drewN]⟩
   ·go_wp2
    go_ret
    exact ⟨ret_bool (eqL_all HL.out fun j h1 h2=>HJ.out j (by omega) h1 h2).symm,m,rfl⟩
 ·have HL:=H_ hl
  have hl1:((xs.length:Int) !=ys.length)=true:=by simp;omega
  clear hl hc hc'
  go_enter Tryz.func38,Tryz.ntmps38
  go_wp2
  go_ret
  exact ⟨ret_bool (eqL_len HL.out).symm,0,rfl⟩
theorem markIntS_any (lo hi:Nat) (v:Value) (xs:List Int) (k:Int) (w:World) (hx:OwnI lo hi 3 w v xs) (hm:xs.length≤1048576) (hk0:0≤k) (hk1:k≤1000000000000) :
  Calls Tryz.prog 40 #[v,.int .i64 k] w fun e w'=>
   e=.returned (.int .i64 (k+xs.length))∧Outside lo hi w w'∧OwnI lo hi 3 w' v (seqI k xs.length):=by
 have hx':=hx
 obtain ⟨a,cap,rfl,hcap,hcm,hlen,hopen⟩:=Own.open hx
 have hlt':=hx'.2
 have hown0:=hx'.1
 have HLT:=H_ hlt'
 clear hx hx' hlen hlt'
 go_enter Tryz.func40,Tryz.ntmps40
 go_wp2
 go_loopw [1,5] (fun c i wr=>∃ j:Nat,j≤xs.length∧i=.int .i64 j∧c=.int .i64 (k+j)∧wr.ownsRow lo 3 1 (.slice a xs.length cap) xs.length (over (ints (seqI k xs.length)) (ints xs) j)∧Outside lo hi w wr) (fun _ i _=>xs.length-(intOf i).toNat)
 case atStart=>exact ⟨0,by omega,rfl,by simp,by rw [over_zero];exact hown0,Outside.refl _ _ _⟩
 case round=>
  obtain ⟨j,hj,rfl,rfl,hown,hout⟩:=hrel
  clear hown0
  by_cases hlt:j<xs.length
  ·obtain ⟨g,rfl,hg1,hg2⟩:=hopen (by omega)
   have hw1:=hown.cellAt j (by omega)
   have hw2:=hown.frozenAt j
   have HS:=H_ (hown.stored j (.int .i64 (k+j))).1
   have HO:=H_ (hout.setCell (p:=⟨g,j,none⟩) hg1 hg2 (.int .i64 (k+j)))
   rw [over_get _ _ _ (by simp [ints,seqI]) (by simp [ints];omega),ints_get _ _ hlt] at hw1
   clear hopen hown hout
   go_wp2
   go_roundw
   case rel=>
    exact ⟨j+1,by omega,by go_num,by go_num,by rw [←over_set _ _ j (by simp [ints,seqI]) (by simp [ints];omega) _ (seqI_get k _ j hlt)];exact HS.out,HO.out⟩
   case measure=>simp [intOf];omega
  ·obtain rfl:j=xs.length:=by omega
   go_wp2
   go_ret
   rw [over_all _ _ _ (by simp [ints]) (by simp [ints,seqI])] at hown
   exact ⟨rfl,hout,by rw [seqI_length];exact hown,HLT.out⟩
theorem heldIntS_any (lo hi:Nat) (v:Value) (n:Nat) (k:Int) (w:World) (hx:SlI lo hi w v (seqI k n)) (hm:n≤1048576) (hk0:0≤k) (hk1:k≤1000000000000) :
  Calls Tryz.prog 43 #[v,.int .i64 k] w fun e w'=>
   e=.returned (.int .i64 (k+n))∧w'=w:=by
 obtain ⟨a,cap,rfl,hcap,hcm,hc⟩:=hx.open
 rw [seqI_length] at *
 clear hx
 go_enter Tryz.func43,Tryz.ntmps43
 go_wp2
 go_loop [1,5] (fun c i=>∃ j:Nat,j≤n∧i=.int .i64 j∧c=.int .i64 (k+j)) (fun _ i=>n-(intOf i).toNat)
 case atStart=>exact ⟨0,by omega,rfl,by simp⟩
 case round=>
  obtain ⟨j,hj,rfl,rfl⟩:=hrel
  by_cases hlt:j<n
  ·obtain ⟨b,off,rfl,_,_,_,hcell⟩:=hc j (by rw [seqI_length];exact hlt)
   have he:(seqI k n)[j]'(by rw [seqI_length];exact hlt)=k+j:=by simp [seqI]
   rw [he] at hcell
   clear hc he
   have ht:((k+j:Int) !=k+j)=false:=by simp
   go_wp2
   go_round
   case rel=>exact ⟨j+1,by omega,by go_num,by go_num⟩
   case measure=>simp [intOf];omega
  ·obtain rfl:j=n:=by omega
   go_wp2
   go_ret
   exact ⟨rfl,rfl⟩
def takesI (s:Int):Int:=if s=19∨s=20 then 2 else if s=21 then 1 else 0
theorem takesI_else (s:Int) (h1:¬s=19) (h2:¬s=20) (h3:¬s=21):takesI s=0:=by simp [takesI,h1,h2,h3]
theorem takesI_bd (s:Int):0≤takesI s∧takesI s≤2:=by unfold takesI;split<;>(try split)<;>omega
theorem ret_int {k:IntKind} {a b:Int} (h:a=b):Ending.returned (.int k a)=.returned (.int k b):=by rw [h]
def kdep:List Int→Int→Option Int
 | [],d=>some d
 | s :: r,d=>if s<0∨21<s∨d<takesI s then none else kdep r (d+1-takesI s)
def katV (e:List Int):Bool:=decide (1≤e.length)&&decide (e.length≤40)&&(kdep e 0==some 1)
theorem kdep_bad (xs:List Int) (k:Nat) (d:Int) (h:k<xs.length) (hb:xs[k]<0∨21<xs[k]∨d<takesI xs[k]):kdep (xs.drop k) d=none:=by
 rw [List.drop_eq_getElem_cons h,kdep,if_pos hb]
theorem kdep_good (xs:List Int) (k:Nat) (d:Int) (h:k<xs.length) (hb:¬(xs[k]<0∨21<xs[k]∨d<takesI xs[k])):kdep (xs.drop k) d=kdep (xs.drop (k+1)) (d+1-takesI xs[k]):=by
 rw [List.drop_eq_getElem_cons h,kdep,if_neg hb]
theorem kdep_end (xs:List Int) (k:Nat) (d:Int) (h:xs.length≤k):kdep (xs.drop k) d=some d:=by
 rw [List.drop_of_length_le h];rfl
theorem katV_none {xs:List Int} (h:kdep xs 0=none):katV xs=false:=by simp [katV,h]
theorem impl_takes (s:Int) (w:World) :
  Calls Tryz.prog 121 #[.int .i64 s] w fun e w'=>e=.returned (.int .i64 (takesI s))∧w=w':=by
 by_cases h1:s=19
 ·subst h1
  go_enter Tryz.func121,Tryz.ntmps121
  go_wp2
  go_ret
  exact ⟨rfl,rfl⟩
 ·by_cases h2:s=20
  ·subst h2
   go_enter Tryz.func121,Tryz.ntmps121
   go_wp2
   go_ret
   exact ⟨rfl,rfl⟩
  ·have b1:(s==19)=false:=by simpa using h1
   have b2:(s==20)=false:=by simpa using h2
   by_cases h3:s=21
   ·subst h3
    go_enter Tryz.func121,Tryz.ntmps121
    go_wp2
    go_ret
    exact ⟨rfl,rfl⟩
   ·have b3:(s==21)=false:=by simpa using h3
    have hr:=H_ (takesI_else s h1 h2 h3)
    clear h1 h2 h3
    go_enter Tryz.func121,Tryz.ntmps121
    go_wp2
    go_ret
    exact ⟨ret_int (by rw [hr.out]),rfl⟩
theorem spec_takes (s:Int) (w:World) :
  Calls Tryz.prog 117 #[.int .i64 s] w fun e w'=>e=.returned (.int .i64 (takesI s))∧w=w':=by
 by_cases h1:s=19
 ·subst h1
  go_enter Tryz.func117,Tryz.ntmps117
  go_wp2
  go_ret
  exact ⟨rfl,rfl⟩
 ·by_cases h2:s=20
  ·subst h2
   go_enter Tryz.func117,Tryz.ntmps117
   go_wp2
   go_ret
   exact ⟨rfl,rfl⟩
  ·have b1:(s==19)=false:=by simpa using h1
   have b2:(s==20)=false:=by simpa using h2
   by_cases h3:s=21
   ·subst h3
    go_enter Tryz.func117,Tryz.ntmps117
    go_wp2
    go_ret
    exact ⟨rfl,rfl⟩
   ·have b3:(s==21)=false:=by simpa using h3
    have hr:=H_ (takesI_else s h1 h2 h3)
    clear h1 h2 h3
    go_enter Tryz.func117,Tryz.ntmps117
    go_wp2
    go_ret
    exact ⟨ret_int (by rw [hr.out]),rfl⟩
theorem impl_KatValid (lo hi:Nat) (v:Value) (xs:List Int) (w:World) (hx:SlI lo hi w v xs) (hm:xs.length≤1048576) :
  Calls Tryz.prog 69 #[v] w fun e w'=>e=.returned (.bool (katV xs))∧w=w':=by
 obtain ⟨a,cap,rfl,hcap,hcm,hc⟩:=hx.open
 clear hx hcm hcap
 by_cases h1:1≤xs.length
 ·by_cases h2:xs.length≤40
  ·go_enter Tryz.func69,Tryz.ntmps69
   go_wp2
   go_loop [3,16] (fun c i=>∃ (k:Nat) (d:Int),k≤xs.length∧i=.int .i64 k∧c=.int .i64 d∧0≤d∧d≤k∧Hid (kdep (xs.drop k) d=kdep xs 0)) (fun _ i=>xs.length-(intOf i).toNat)
   case atStart=>exact ⟨0,0,by omega,rfl,rfl,by omega,by omega,H_ rfl⟩
   case round=>
    obtain ⟨k,d,hk,rfl,rfl,hd0,hdk,HT⟩:=hrel
    by_cases hlt:k<xs.length
    ·obtain ⟨b,off,rfl,_,_,_,hcell⟩:=hc k hlt
     clear hc
     obtain ⟨t0,t1⟩:=takesI_bd xs[k]
     by_cases hb1:xs[k]<0
     ·have HN:=H_ (kdep_bad xs k d hlt (.inl hb1))
      go_wp2
      go_ret
      exact ⟨ret_bool (katV_none (by rw [←HT.out,HN.out])).symm,rfl⟩
     ·by_cases hb2:21<xs[k]
      ·have HN:=H_ (kdep_bad xs k d hlt (.inr (.inl hb2)))
       go_wp2
       go_ret
       exact ⟨ret_bool (katV_none (by rw [←HT.out,HN.out])).symm,rfl⟩
      ·by_cases hb3:d<takesI xs[k]
       ·have HN:=H_ (kdep_bad xs k d hlt (.inr (.inr hb3)))
        go_wp2_with (go_at_call 121;refine (impl_takes _ _).mono ?_;rintro e w' ⟨rfl,rfl⟩)
        go_ret
        exact ⟨ret_bool (katV_none (by rw [←HT.out,HN.out])).symm,rfl⟩
       ·have HN:=H_ (kdep_good xs k d hlt (by omega))
        go_wp2_with (go_at_call 121;refine (impl_takes _ _).mono ?_;rintro e w' ⟨rfl,rfl⟩)
        go_round
        case rel=>exact ⟨k+1,d+1-takesI xs[k],by omega,by go_num,by first | go_num | (congr 1;omega),by omega,by omega,H_ (by rw [←HT.out,HN.out])⟩
        case measure=>simp [intOf];omega
    ·have HN:=H_ (kdep_end xs k d (by omega))
     go_wp2
     go_ret
     exact ⟨ret_bool (by simp [katV,←HT.out,HN.out,h1,h2]),rfl⟩
  ·go_enter Tryz.func69,Tryz.ntmps69
   go_wp2
   go_ret
   exact ⟨ret_bool (by simp [katV];omega),rfl⟩
 ·go_enter Tryz.func69,Tryz.ntmps69
  go_wp2
  go_ret
  exact ⟨ret_bool (by simp [katV];omega),rfl⟩
theorem inB_21 (x:Int):inB x 0 21=true↔¬(x<0∨21<x):=by simp [inB]
theorem inB_21f (x:Int):inB x 0 21=false↔(x<0∨21<x):=by simp [inB];omega
theorem spec_KatValid (lo hi:Nat) (v:Value) (xs:List Int) (w:World) (hx:SlI lo hi w v xs) (hm:xs.length≤1048576) :
  Calls Tryz.prog 64 #[v] w fun e w'=>e=.returned (.bool (katV xs))∧w=w':=by
 obtain ⟨a,cap,rfl,hcap,hcm,hc⟩:=hx.open
 clear hx hcm hcap
 go_enter Tryz.func64,Tryz.ntmps64
 go_wp2
 go_loop [3,4] (fun c i=>∃ (k:Nat) (d:Int),k≤xs.length∧i=.int .i64 k∧c=.int .i64 d∧0≤d∧d≤k∧Hid (kdep (xs.drop k) d=kdep xs 0)) (fun _ i=>xs.length-(intOf i).toNat)
 case atStart=>exact ⟨0,0,by omega,rfl,rfl,by omega,by omega,H_ rfl⟩
 case round=>
  obtain ⟨k,d,hk,rfl,rfl,hd0,hdk,HT⟩:=hrel
  by_cases hlt:k<xs.length
  ·obtain ⟨b,off,rfl,_,_,_,hcell⟩:=hc k hlt
   clear hc
   obtain ⟨t0,t1⟩:=takesI_bd xs[k]
   cases hb1:inB xs[k] 0 21
   ·have HN:=H_ (kdep_bad xs k d hlt (by have:=(inB_21f xs[k]).1 hb1;omega))
    go_wp2_with (go_at_call 101;refine (l1In_any _ _ _ _).mono ?_;rintro e w' ⟨rfl,rfl⟩)
    go_ret
    exact ⟨ret_bool (katV_none (by rw [←HT.out,HN.out])).symm,rfl⟩
   ·by_cases hb3:d<takesI xs[k]
    ·have HN:=H_ (kdep_bad xs k d hlt (.inr (.inr hb3)))
     go_wp2_with (first | (go_at_call 101;refine (l1In_any _ _ _ _).mono ?_;rintro e w' ⟨rfl,rfl⟩) | (go_at_call 117;refine (spec_takes _ _).mono ?_;rintro e w' ⟨rfl,rfl⟩))
     go_ret
     exact ⟨ret_bool (katV_none (by rw [←HT.out,HN.out])).symm,rfl⟩
    ·have HN:=H_ (kdep_good xs k d hlt (by have:=(inB_21 xs[k]).1 hb1;omega))
     go_wp2_with (first | (go_at_call 101;refine (l1In_any _ _ _ _).mono ?_;rintro e w' ⟨rfl,rfl⟩) | (go_at_call 117;refine (spec_takes _ _).mono ?_;rintro e w' ⟨rfl,rfl⟩))
     go_round
     case rel=>exact ⟨k+1,d+1-takesI xs[k],by omega,by go_num,by first | go_num | (congr 1;omega),by omega,by omega,H_ (by rw [←HT.out,HN.out])⟩
     case measure=>simp [intOf];omega
  ·have HN:=H_ (kdep_end xs k d (by omega))
   obtain rfl:k=xs.length:=by omega
   have HK:=H_ (show katV xs=(inB xs.length 1 40&&d==1) by
    simp only [katV,←HT.out,HN.out,inB]
    rw [Bool.eq_iff_iff]
    simp
    omega)
   cases hb:inB xs.length 1 40
   ·go_wp2_with (go_at_call 101;refine (l1In_any _ _ _ _).mono ?_;rintro e w' ⟨rfl,rfl⟩)
    go_ret
    exact ⟨ret_bool (by rw [HK.out,hb];rfl),rfl⟩
   ·go_wp2_with (go_at_call 101;refine (l1In_any _ _ _ _).mono ?_;rintro e w' ⟨rfl,rfl⟩)
    go_ret
    exact ⟨ret_bool (by rw [HK.out,hb];rfl),rfl⟩
inductive KT where
 | leaf (n:Int)
 | star (t:KT)
 | bin (p:Bool) (a b:KT)
def KT.op (p:Bool):Int:=if p then 20 else 19
def KT.post:KT→List Int
 | .leaf n=>[n]
 | .star t=>t.post++[21]
 | .bin p a b=>a.post++b.post++[KT.op p]
def KT.ok (lo:Int):KT→Bool
 | .leaf n=>decide (lo≤n)&&decide (n≤18)
 | .star t=>t.ok lo
 | .bin _ a b=>a.ok lo&&b.ok lo
def KT.size:KT→Nat
 | .leaf _=>1
 | .star t=>t.size+1
 | .bin _ a b=>a.size+b.size+1
theorem KT.post_length:∀ t:KT,t.post.length=t.size
 | .leaf _=>rfl
 | .star t=>by simp [post,size,t.post_length]
 | .bin _ a b=>by simp [post,size,a.post_length,b.post_length];omega
theorem KT.size_pos (t:KT):1≤t.size:=by cases t<;>simp [KT.size]
theorem takesI_op (p:Bool):takesI (KT.op p)=2:=by cases p<;>rfl
theorem takesI_21:takesI 21=1:=rfl
theorem takesI_leaf {n:Int} (h:n≤18):takesI n=0:=takesI_else n (by omega) (by omega) (by omega)
def spanO:List Int→Int→Option Nat
 | [],n=>if n≤0 then some 0 else none
 | s :: r,n=>if n≤0 then some 0 else (spanO r (n-1+takesI s)).map (·+1)
theorem spanO_zero (r:List Int):spanO r 0=some 0:=by cases r<;>simp [spanO]
theorem spanO_cons (s:Int) (r:List Int) (n:Int) (h:0<n):spanO (s :: r) n=(spanO r (n-1+takesI s)).map (·+1):=by
 rw [spanO,if_neg (by omega)]
theorem spanO_post (lo:Int):∀ (t:KT),t.ok lo=true→∀ (r:List Int) (n:Int),0<n→spanO (t.post.reverse++r) n=(spanO r (n-1)).map (·+t.size)
 | .leaf k,hk,r,n,hn=>by
  simp only [KT.ok,Bool.and_eq_true,decide_eq_true_eq] at hk
  simp only [KT.post,KT.size,List.reverse_singleton,List.singleton_append]
  rw [spanO_cons _ _ _ hn,takesI_leaf hk.2,Int.add_zero]
 | .star t,hk,r,n,hn=>by
  simp only [KT.ok] at hk
  simp only [KT.post,KT.size,List.reverse_append,List.reverse_singleton,List.nil_append,List.cons_append]
  rw [spanO_cons _ _ _ hn,takesI_21,spanO_post lo t hk r _ (by omega),Option.map_map]
  rw [show n-1+1-1=n-1 by omega]
  rfl
 | .bin p a b,hk,r,n,hn=>by
  simp only [KT.ok,Bool.and_eq_true] at hk
  simp only [KT.post,KT.size,List.reverse_append,List.reverse_singleton,List.nil_append,List.cons_append,List.append_assoc]
  rw [spanO_cons _ _ _ hn,takesI_op,spanO_post lo b hk.2 _ _ (by omega),spanO_post lo a hk.1 r _ (by omega),Option.map_map,Option.map_map]
  rw [show n-1+2-1-1=n-1 by omega]
  congr 1
  funext x
  simp only [Function.comp]
  omega
def posts:List KT→List Int
 | []=>[]
 | t :: r=>posts r++t.post
def pushK (s:Int) (st:List KT):Option (List KT):=
 if takesI s=2 then match st with
   | b :: a :: r=>some (.bin (s==20) a b :: r)
   | _=>none
  else if takesI s=1 then match st with
   | a :: r=>some (.star a :: r)
   | _=>none
  else some (.leaf s :: st)
def runK:List Int→List KT→Option (List KT)
 | [],st=>some st
 | s :: r,st=>(pushK s st).bind (runK r)
theorem posts_push {s:Int} {st st':List KT} (h:pushK s st=some st'):posts st'=posts st++[s]:=by
 unfold pushK at h
 split at h
 ·rename_i ht
  split at h
  ·injection h with h
   subst h
   have:s=19∨s=20:=by
    unfold takesI at ht
    split at ht
    ·assumption
    ·split at ht<;>omega
   rcases this with rfl|rfl<;>simp [posts,KT.post,KT.op]
  ·cases h
 ·split at h
  ·rename_i ht
   split at h
   ·injection h with h
    subst h
    have:s=21:=by
     unfold takesI at ht
     split at ht
     ·omega
     ·split at ht
      ·assumption
      ·omega
    subst this
    simp [posts,KT.post]
   ·cases h
  ·injection h with h
   subst h
   simp [posts,KT.post]
theorem posts_run:∀ (e:List Int) (st st':List KT),runK e st=some st'→posts st'=posts st++e
 | [],st,st',h=>by simp [runK] at h;simp [h]
 | s :: r,st,st',h=>by
  simp only [runK,Option.bind_eq_some_iff] at h
  obtain ⟨s1,h1,h2⟩:=h
  rw [posts_run r s1 st' h2,posts_push h1]
  simp
def oks (lo:Int) (st:List KT):Prop:=∀ t∈st,t.ok lo=true
theorem oks_push {lo s:Int} {st st':List KT} (hs:lo≤s) (hs':s≤21) (ho:oks lo st) (h:pushK s st=some st'):oks lo st':=by
 unfold pushK at h
 split at h
 ·split at h
  ·injection h with h
   subst h
   intro t ht
   simp only [List.mem_cons] at ht
   rcases ht with rfl|ht
   ·simp [KT.ok,ho _ (List.mem_cons_self ..),ho _ (List.mem_cons_of_mem _ (List.mem_cons_self ..))]
   ·exact ho _ (by simp [ht])
  ·cases h
 ·split at h
  ·split at h
   ·injection h with h
    subst h
    intro t ht
    simp only [List.mem_cons] at ht
    rcases ht with rfl|ht
    ·simp [KT.ok,ho _ (List.mem_cons_self ..)]
    ·exact ho _ (by simp [ht])
   ·cases h
  ·rename_i h1 h2
   injection h with h
   subst h
   intro t ht
   simp only [List.mem_cons] at ht
   rcases ht with rfl|ht
   ·have hle:s≤18:=by
     unfold takesI at h1 h2
     by_cases hh:s=19∨s=20
     ·simp [hh] at h1
     ·by_cases h3:s=21
      ·subst h3;simp at h2
      ·omega
    simp [KT.ok,hs,hle]
   ·exact ho _ ht
theorem kdep_push {s:Int} {st:List KT} (h:¬(s<0∨21<s∨(st.length:Int)<takesI s)):∃ st',pushK s st=some st'∧(st'.length:Int)=st.length+1-takesI s:=by
 unfold pushK
 have hb:=takesI_bd s
 split
 ·rename_i ht
  match st,h with
  | [],h=>simp at h;omega
  | [x],h=>simp at h;omega
  | b :: a :: r,h=>exact ⟨_,rfl,by simp;omega⟩
 ·split
  ·rename_i ht
   match st,h with
   | [],h=>simp at h;omega
   | a :: r,h=>exact ⟨_,rfl,by simp;omega⟩
  ·exact ⟨_,rfl,by simp;omega⟩
theorem kdep_run:∀ (e:List Int) (st:List KT) (d:Int),oks 0 st→kdep e st.length=some d→∃ st',runK e st=some st'∧oks 0 st'∧(st'.length:Int)=d
 | [],st,d,ho,h=>⟨st,rfl,ho,by simpa [kdep] using h⟩
 | s :: r,st,d,ho,h=>by
  rw [kdep] at h
  split at h
  ·cases h
  ·rename_i hb
   obtain ⟨st1,h1,h2⟩:=kdep_push hb
   rw [←h2] at h
   obtain ⟨st',h3,h4,h5⟩:=kdep_run r st1 d (oks_push (by omega) (by omega) ho h1) h
   exact ⟨st',by simp [runK,h1,h3],h4,h5⟩
theorem katV_tree {e:List Int} (h:katV e=true):∃ t:KT,t.ok 0=true∧t.post=e∧runK e []=some [t]∧t.size≤40:=by
 simp only [katV,Bool.and_eq_true,decide_eq_true_eq,beq_iff_eq] at h
 obtain ⟨⟨h1,h2⟩,h3⟩:=h
 obtain ⟨st,h4,h5,h6⟩:=kdep_run e [] 1 (by intro t ht;cases ht) h3
 match st,h6 with
 | [t],_=>
  have hp:=posts_run e [] [t] h4
  simp only [posts,List.nil_append] at hp
  exact ⟨t,h5 t (by simp),hp,h4,by rw [←t.post_length,hp];exact h2⟩
theorem runK_append:∀ (a b:List Int) (st:List KT),runK (a++b) st=(runK a st).bind (runK b)
 | [],b,st=>by simp [runK]
 | s :: r,b,st=>by
  simp only [List.cons_append,runK,Option.bind_assoc]
  congr 1
  funext x
  exact runK_append r b x
theorem runK_post (lo:Int):∀ (t:KT),t.ok lo=true→∀ st,runK t.post st=some (t :: st)
 | .leaf n,h,st=>by
  simp only [KT.ok,Bool.and_eq_true,decide_eq_true_eq] at h
  simp [KT.post,runK,pushK,takesI_leaf h.2]
 | .star t,h,st=>by
  simp only [KT.ok] at h
  simp only [KT.post]
  rw [runK_append,runK_post lo t h]
  simp [runK,pushK,takesI_21]
 | .bin p a b,h,st=>by
  simp only [KT.ok,Bool.and_eq_true] at h
  simp only [KT.post]
  rw [runK_append,runK_append,runK_post lo a h.1]
  simp only [Option.bind_some]
  rw [runK_post lo b h.2]
  simp only [Option.bind_some,runK,pushK,takesI_op]
  cases p<;>simp [KT.op]
theorem post_inj {lo:Int} {a b:KT} (ha:a.ok lo=true) (hb:b.ok lo=true) (h:a.post=b.post):a=b:=by
 have h1:=runK_post lo a ha []
 rw [h,runK_post lo b hb] at h1
 injection h1 with h1
 injection h1 with h1
 exact h1.symm
theorem kdep_append:∀ (a b:List Int) (d:Int),kdep (a++b) d=(kdep a d).bind (kdep b)
 | [],b,d=>by simp [kdep]
 | s :: r,b,d=>by
  simp only [List.cons_append,kdep]
  split
  ·rfl
  ·exact kdep_append r b _
theorem kdep_post:∀ (t:KT),t.ok 0=true→∀ d:Int,0≤d→kdep t.post d=some (d+1)
 | .leaf n,h,d,hd=>by
  simp only [KT.ok,Bool.and_eq_true,decide_eq_true_eq] at h
  have:=takesI_leaf h.2
  simp only [KT.post]
  rw [kdep,if_neg (by omega),this]
  simp [kdep]
 | .star t,h,d,hd=>by
  simp only [KT.ok] at h
  simp only [KT.post]
  rw [kdep_append,kdep_post t h d hd]
  have:=takesI_21
  simp only [Option.bind_some]
  rw [kdep,if_neg (by omega),this]
  simp [kdep]
 | .bin p a b,h,d,hd=>by
  simp only [KT.ok,Bool.and_eq_true] at h
  simp only [KT.post]
  rw [kdep_append,kdep_append,kdep_post a h.1 d hd]
  simp only [Option.bind_some]
  rw [kdep_post b h.2 _ (by omega)]
  have:=takesI_op p
  simp only [Option.bind_some]
  rw [kdep,if_neg (by cases p<;>simp [KT.op] at *<;>omega),this]
  simp only [kdep]
  congr 1
  omega
theorem katV_post {t:KT} (h:t.ok 0=true) (hs:t.size≤40):katV t.post=true:=by
 have:=t.size_pos
 simp only [katV,Bool.and_eq_true,decide_eq_true_eq,beq_iff_eq,t.post_length]
 exact ⟨⟨this,hs⟩,kdep_post t h 0 (by omega)⟩
theorem wrap_i64_nat (n:Nat) (h:n<4611686018427387904):IntKind.i64.wrap (n:Int)=n:=IntWalk.i64_in _ (by omega)
theorem bits64_and (a b:Nat) (ha:a<4611686018427387904) (hb:b<4611686018427387904):bits .and .i64 a b=((a &&& b:Nat):Int):=by
 have ha':a%2 ^ 64=a:=Nat.mod_eq_of_lt (by omega)
 have hb':b%2 ^ 64=b:=Nat.mod_eq_of_lt (by omega)
 have h:(BitVec.ofInt 64 (a:Int) &&& BitVec.ofInt 64 (b:Int)).toNat=a &&& b:=by
  rw [BitVec.ofInt_natCast,BitVec.ofInt_natCast,BitVec.toNat_and,BitVec.toNat_ofNat,BitVec.toNat_ofNat,ha',hb']
 show IntKind.i64.wrap ((BitVec.ofInt 64 (a:Int) &&& BitVec.ofInt 64 (b:Int)).toNat:Int)=_
 rw [h]
 exact wrap_i64_nat _ (Nat.and_lt_two_pow (n:=62) _ hb)
theorem bits64_or (a b:Nat) (ha:a<4611686018427387904) (hb:b<4611686018427387904):bits .or .i64 a b=((a ||| b:Nat):Int):=by
 have ha':a%2 ^ 64=a:=Nat.mod_eq_of_lt (by omega)
 have hb':b%2 ^ 64=b:=Nat.mod_eq_of_lt (by omega)
 have h:(BitVec.ofInt 64 (a:Int) ||| BitVec.ofInt 64 (b:Int)).toNat=a ||| b:=by
  rw [BitVec.ofInt_natCast,BitVec.ofInt_natCast,BitVec.toNat_or,BitVec.toNat_ofNat,BitVec.toNat_ofNat,ha',hb']
 show IntKind.i64.wrap ((BitVec.ofInt 64 (a:Int) ||| BitVec.ofInt 64 (b:Int)).toNat:Int)=_
 rw [h]
 exact wrap_i64_nat _ (Nat.or_lt_two_pow (n:=62) ha hb)
theorem bits64_xor (a b:Nat) (ha:a<4611686018427387904) (hb:b<4611686018427387904):bits .xor .i64 a b=((a ^^^ b:Nat):Int):=by
 have ha':a%2 ^ 64=a:=Nat.mod_eq_of_lt (by omega)
 have hb':b%2 ^ 64=b:=Nat.mod_eq_of_lt (by omega)
 have h:(BitVec.ofInt 64 (a:Int) ^^^ BitVec.ofInt 64 (b:Int)).toNat=a ^^^ b:=by
  rw [BitVec.ofInt_natCast,BitVec.ofInt_natCast,BitVec.toNat_xor,BitVec.toNat_ofNat,BitVec.toNat_ofNat,ha',hb']
 show IntKind.i64.wrap ((BitVec.ofInt 64 (a:Int) ^^^ BitVec.ofInt 64 (b:Int)).toNat:Int)=_
 rw [h]
 exact wrap_i64_nat _ (Nat.xor_lt_two_pow (n:=62) ha hb)
def atomsT (t:Nat):Nat→List UInt8
 | 0=>[]
 | k+1=>atomsT t k++(if (t >>> k)%2=1 then [UInt8.ofNat (48+k)] else [])
def namedT:Nat→Option (List UInt8)
 | 0=>some [48]
 | 15=>some [49]
 | 10=>some [112]
 | 12=>some [113]
 | 5=>some [33,112]
 | 3=>some [33,113]
 | _=>none
def testT (t:Nat):List UInt8:=match namedT t with | some s=>s | none=>91 :: atomsT t 4++[93]
def hb (t k:Nat):Bool:=(t >>> k)%2==1
theorem testValid_any (t:Int) (w:World):Calls Tryz.prog 118 #[.int .i64 t] w fun e w'=>e=.returned (.bool (inB t 0 15))∧w=w':=by
 go_enter Tryz.func118,Tryz.ntmps118
 by_cases h1:0≤t
 ·by_cases h2:t≤15
  ·go_wp2
   go_ret
   exact ⟨ret_bool (by simp [inB,h1,h2]),rfl⟩
  ·go_wp2
   go_ret
   exact ⟨ret_bool (by simp [inB];omega),rfl⟩
 ·go_wp2
  go_ret
  exact ⟨ret_bool (by simp [inB];omega),rfl⟩
theorem holds_any (t k:Nat) (ht:t<16) (hk:k<4) (w:World):Calls Tryz.prog 148 #[.int .i64 t,.int .i64 k] w fun e w'=>e=.returned (.bool (hb t k))∧w=w':=by
 have h1:t=0∨t=1∨t=2∨t=3∨t=4∨t=5∨t=6∨t=7∨t=8∨t=9∨t=10∨t=11∨t=12∨t=13∨t=14∨t=15:=by omega
 have h2:k=0∨k=1∨k=2∨k=3:=by omega
 clear ht hk
 rcases h2 with rfl|rfl|rfl|rfl
 all_goals rcases h1 with rfl | rfl | rfl | rfl | rfl | rfl | rfl | rfl | rfl | rfl | rfl | rfl | rfl | rfl | rfl | rfl
 all_goals (go_enter Tryz.func148,Tryz.ntmps148;go_wp2;go_ret;exact ⟨rfl,rfl⟩)
theorem l1Bit_any (t k:Nat) (ht:t<16) (hk:k<4) (w:World):Calls Tryz.prog 109 #[.int .i64 t,.int .i64 k] w fun e w'=>e=.returned (.int .i64 (if hb t k then 1 else 0))∧w=w':=by
 have h1:t=0∨t=1∨t=2∨t=3∨t=4∨t=5∨t=6∨t=7∨t=8∨t=9∨t=10∨t=11∨t=12∨t=13∨t=14∨t=15:=by omega
 have h2:k=0∨k=1∨k=2∨k=3:=by omega
 clear ht hk
 rcases h2 with rfl|rfl|rfl|rfl
 all_goals rcases h1 with rfl | rfl | rfl | rfl | rfl | rfl | rfl | rfl | rfl | rfl | rfl | rfl | rfl | rfl | rfl | rfl
 all_goals (go_enter Tryz.func109,Tryz.ntmps109;go_wp2;go_ret;exact ⟨rfl,rfl⟩)
theorem atomsT_yes {t k:Nat} (h:hb t k=true):atomsT t (k+1)=atomsT t k++[UInt8.ofNat (48+k)]:=by
 simp only [hb,beq_iff_eq] at h
 simp [atomsT,h]
theorem atomsT_no {t k:Nat} (h:hb t k=false):atomsT t (k+1)=atomsT t k:=by
 have h':¬(t >>> k)%2=1:=by simpa [hb] using h
 simp [atomsT,h']
theorem cat1 (l:List UInt8) (c:UInt8) (l':List UInt8) (h:l'=l++[c]):(ByteArray.mk l.toArray)++(ByteArray.mk #[c])=ByteArray.mk l'.toArray:=by
 subst h
 show ByteArray.mk l.toArray++ByteArray.mk [c].toArray=_
 rw [ByteArray.mk_append_mk]
def MapT (w:World):Prop:=∃ bm,w.cell? ⟨0,0,none⟩=some (.map (some bm))∧bm<w.heap.size ∧
 ∀ w':World,w'.heap[bm]?=w.heap[bm]?→∀ t:Nat,t<16 →
  (Instr.lookup 109 (.map (some bm)) (.int .i64 t) true).run Tryz.prog w'=.ok (match namedT t with | some s=>.tuple #[.string ⟨s.toArray⟩,.bool true] | none=>.tuple #[.string ⟨#[]⟩,.bool false]) w'
theorem MapT.below {w w':World} (h:MapT w) (hb:Below w.heap.size w w'):MapT w':=by
 obtain ⟨bm,h1,h2,h3⟩:=h
 refine ⟨bm,(hb.cell (World.block_lt_of_cell? w _ h1)).trans h1,Nat.lt_of_lt_of_le h2 hb.size,fun w2 h=>h3 w2 (h.trans (hb.block bm h2))⟩
theorem impl_TestText (t:Nat) (ht:t<16) (w:World) (hM:MapT w) :
  Calls Tryz.prog 95 #[.int .i64 t] w fun e w'=>e=.returned (.string ⟨(testT t).toArray⟩)∧w=w':=by
 obtain ⟨bm,c0,_,hlook⟩:=hM
 have hl:=hlook w rfl t ht
 clear hlook
 have hv:inB (t:Int) 0 15=true:=by simp [inB];omega
 cases hn:namedT t with
 | some s=>
  rw [hn] at hl
  have HT:=H_ (show testT t=s by simp [testT,hn])
  clear hn
  go_enter Tryz.func95,Tryz.ntmps95
  go_wp2_with (go_at_call 118;refine (testValid_any _ _).mono ?_;rintro e w' ⟨rfl,rfl⟩)
  go_ret
  exact ⟨by rw [HT.out];rfl,rfl⟩
 | none=>
  rw [hn] at hl
  have HT:=H_ (show testT t=91 :: atomsT t 4++[93] by simp [testT,hn])
  clear hn
  go_enter Tryz.func95,Tryz.ntmps95
  go_wp2_with (go_at_call 118;refine (testValid_any _ _).mono ?_;rintro e w' ⟨rfl,rfl⟩)
  go_loop [5,18] (fun s i=>∃ (k:Nat) (l:List UInt8),k≤4∧i=.int .i64 k∧s=.string ⟨l.toArray⟩∧l.length≤1+k∧Hid (l=91 :: atomsT t k)) (fun _ i=>4-(intOf i).toNat)
  case atStart=>exact ⟨0,[91],by omega,rfl,rfl,by simp,H_ rfl⟩
  case round=>
   obtain ⟨k,l,hk,rfl,rfl,hlen,HL⟩:=hrel
   by_cases hlt:k<4
   ·cases hq:hb t k
    ·have HN:=H_ (atomsT_no hq)
     go_wp2_with (go_at_call 148;refine (holds_any t k ht hlt _).mono ?_;rintro e w' ⟨rfl,rfl⟩)
     go_round
     case rel=>exact ⟨k+1,l,by omega,by go_num,rfl,by omega,H_ (by rw [HL.out,HN.out])⟩
     case measure=>simp [intOf];omega
    ·have HN:=H_ (atomsT_yes hq)
     have hk4:k=0∨k=1∨k=2∨k=3:=by omega
     rcases hk4 with rfl|rfl|rfl|rfl
     ·have hu:(Utf8.encode 48).size=1:=rfl
      go_wp2_with (go_at_call 148;refine (holds_any t 0 ht hlt _).mono ?_;rintro e w' ⟨rfl,rfl⟩)
      go_round
      case rel=>exact ⟨1,l++[48],by omega,by go_num,congrArg Value.string (cat1 _ _ _ rfl),by simp;omega,H_ (by rw [HL.out,HN.out];rfl)⟩
      case measure=>simp [intOf]
     ·have hu:(Utf8.encode 49).size=1:=rfl
      go_wp2_with (go_at_call 148;refine (holds_any t 1 ht hlt _).mono ?_;rintro e w' ⟨rfl,rfl⟩)
      go_round
      case rel=>exact ⟨2,l++[49],by omega,by go_num,congrArg Value.string (cat1 _ _ _ rfl),by simp;omega,H_ (by rw [HL.out,HN.out];rfl)⟩
      case measure=>simp [intOf]
     ·have hu:(Utf8.encode 50).size=1:=rfl
      go_wp2_with (go_at_call 148;refine (holds_any t 2 ht hlt _).mono ?_;rintro e w' ⟨rfl,rfl⟩)
      go_round
      case rel=>exact ⟨3,l++[50],by omega,by go_num,congrArg Value.string (cat1 _ _ _ rfl),by simp;omega,H_ (by rw [HL.out,HN.out];rfl)⟩
      case measure=>simp [intOf]
     ·have hu:(Utf8.encode 51).size=1:=rfl
      go_wp2_with (go_at_call 148;refine (holds_any t 3 ht hlt _).mono ?_;rintro e w' ⟨rfl,rfl⟩)
      go_round
      case rel=>exact ⟨4,l++[51],by omega,by go_num,congrArg Value.string (cat1 _ _ _ rfl),by simp;omega,H_ (by rw [HL.out,HN.out];rfl)⟩
      case measure=>simp [intOf]
   ·obtain rfl:k=4:=by omega
    go_wp2
    go_ret
    exact ⟨congrArg (fun b=>Ending.returned (Value.string b)) (cat1 _ _ _ (by rw [HT.out,HL.out])),rfl⟩
def readT (l:List UInt8):Option Nat:=(List.range 16).find? fun t=>testT t==l
def NoT (l:List UInt8) (k:Nat):Prop:=∀ j,j<k→testT j≠l
theorem readT_some {l:List UInt8} {k:Nat} (hk:k<16) (hn:NoT l k) (h:testT k=l):readT l=some k:=by
 unfold readT
 rw [List.find?_range_eq_some]
 refine ⟨by simpa using h,by simpa using hk,fun j hj=>by simpa using hn j hj⟩
theorem readT_none {l:List UInt8} (hn:NoT l 16):readT l=none:=by
 unfold readT
 rw [List.find?_eq_none]
 intro t ht
 simpa using hn t (by simpa using ht)
def rdT:Option Nat→Value
 | some t=>.tuple #[.int .i64 t,.bool true]
 | none=>.tuple #[.int .i64 (-1),.bool false]
theorem impl_ReadTest (l:List UInt8) (s:ByteArray) (hs:s=⟨l.toArray⟩) (w:World) (hM:MapT w) :
  Calls Tryz.prog 217 #[.string s] w fun e w'=>e=.returned (rdT (readT l))∧w=w':=by
 subst hs
 have HM:=H_ hM
 clear hM
 go_enter Tryz.func217,Tryz.ntmps217
 go_wp2
 go_loop [5] (fun i=>∃ k:Nat,k≤16∧i=.int .i64 k∧Hid (NoT l k)) (fun i=>16-(intOf i).toNat)
 case atStart=>exact ⟨0,by omega,rfl,H_ (by intro j hj;omega)⟩
 case round=>
  obtain ⟨k,hk,rfl,HN⟩:=hrel
  by_cases hlt:k<16
  ·cases hq:(testT k==l)
   ·go_wp2_with (go_at_call 95;refine (impl_TestText k hlt _ HM.out).mono ?_;rintro e w' ⟨rfl,rfl⟩)
    go_round
    case rel=>
     refine ⟨k+1,by omega,by go_num,H_ ?_⟩
     intro j hj
     rcases Nat.lt_or_ge j k with h|h
     ·exact HN.out j h
     ·obtain rfl:j=k:=by omega
      simpa using hq
    case measure=>simp [intOf];omega
   ·have HR:=H_ (readT_some hlt HN.out (by simpa using hq))
    go_wp2_with (go_at_call 95;refine (impl_TestText k hlt _ HM.out).mono ?_;rintro e w' ⟨rfl,rfl⟩)
    go_ret2
    exact ⟨by rw [HR.out];rfl,rfl⟩
  ·obtain rfl:k=16:=by omega
   have HR:=H_ (readT_none HN.out)
   go_wp2
   go_ret2
   exact ⟨by rw [HR.out];rfl,rfl⟩
abbrev PR:=List UInt8→Option (List Int × List UInt8)
def singleP (sum:PR):PR
 | []=>none
 | c :: r=>
  if c.toNat=40 then
   match sum r with
   | some (e,d :: r2)=>if d.toNat=41 then some (e,r2) else none
   | _=>none
  else if c.toNat=33∨c.toNat=91 then none
  else if 97≤c.toNat∧c.toNat≤99 then some ([16+((c.toNat:Int)-97)],r)
  else match readT [c] with
   | some t=>some ([(t:Int)],r)
   | none=>none
def starP:List Int→List UInt8→List Int × List UInt8
 | e,[]=>(e,[])
 | e,c :: r=>if c.toNat=42 then starP (e++[21]) r else (e,c :: r)
def starredP (single:PR):PR:=fun s=>(single s).map fun x=>starP x.1 x.2
def loopP (sign:Nat) (op:Int) (part:PR):Nat→List Int→PR
 | _,e,[]=>some (e,[])
 | 0,e,c :: r=>if c.toNat=sign then none else some (e,c :: r)
 | n+1,e,c :: r=>if c.toNat=sign then (part r).bind fun x=>loopP sign op part n (e++x.1++[op]) x.2 else some (e,c :: r)
def chainP (sign:Nat) (op:Int) (part:PR):PR:=fun s=>(part s).bind fun x=>loopP sign op part x.2.length x.1 x.2
def sumP:Nat→PR
 | 0=>fun _=>none
 | n+1=>chainP 43 20 (chainP 59 19 (starredP (singleP (sumP n))))
def Ends (p:PR):Prop:=∀ s e r,p s=some (e,r)→∃ k,1≤k∧k≤s.length∧r=s.drop k
theorem grown_outside {lo hi:Nat} {w w':World} {row:Option Nat} (hg:w.grownBy w' row) (h:∀ k,row=some k→lo≤k∧k<hi):Outside lo hi w w':=
 ⟨hg.os,hg.tape,hg.output,hg.size,fun k hk hd=>hg.block k hk (fun e=>by have:=h k e.symm;omega)⟩
theorem Own.lt {sz lo hi e n:Nat} {w:World} {v:Value} {xs:List Value} (h:Own sz lo hi e w v n xs):∀ k,v.ownBlock=some k→lo≤k∧k<hi:=
 fun k hk=>⟨(h.1.lt k hk).1,h.2 k hk⟩
theorem Own.of_row {sz lo e n:Nat} {w:World} {v:Value} {xs:List Value} (h:w.ownsRow lo e sz v n xs):Own sz lo w.heap.size e w v n xs:=
 ⟨h,fun k hk=>(h.lt k hk).2⟩
theorem Own.nil (sz lo hi e:Nat) (w:World):Own sz lo hi e w (.slice none 0 0) 0 []:=⟨World.ownsRow_nil _ _ _ _,by simp [Value.ownBlock]⟩
theorem Own.wide {sz lo hi hi' e n:Nat} {w:World} {v:Value} {xs:List Value} (h:Own sz lo hi e w v n xs) (hh:hi≤hi'):Own sz lo hi' e w v n xs:=
 ⟨h.1,fun k hk=>Nat.lt_of_lt_of_le (h.2 k hk) hh⟩
theorem Own.wide2 {sz lo lo' hi hi' e n:Nat} {w:World} {v:Value} {xs:List Value} (h:Own sz lo hi e w v n xs) (hl:lo'≤lo) (hh:hi≤hi'):Own sz lo' hi' e w v n xs:=by
 obtain ⟨⟨h1,h2⟩,h3⟩:=h
 refine ⟨⟨h1,?_⟩,fun k hk=>Nat.lt_of_lt_of_le (h3 k hk) hh⟩
 rcases h2 with h2|⟨g,cap,cur,hv,hb,hrest⟩
 ·exact .inl h2
 ·exact .inr ⟨g,cap,cur,hv,Nat.le_trans hl hb,hrest⟩
theorem Own.alloc {sz lo hi e n:Nat} {w:World} {v:Value} {xs:List Value} (h:Own sz lo hi e w v n xs) (o:Obj):Own sz lo hi e (w.alloc o) v n xs:=
 ⟨h.1.alloc o,h.2⟩
theorem Own.lit (sz e:Nat) (w:World) (cs:List Value) (n:Nat) (hm:n≤1073741824) (hs:cs.length=n*sz) :
  Own sz w.heap.size (w.heap.size+1) e (w.alloc (.cells cs.toArray e)) (.slice (some ⟨w.heap.size,0,none⟩) n n) n cs:=by
 refine ⟨World.ownsRow_lit (base:=w.heap.size) (size:=sz) w cs.toArray n (le_ _) (by unfold maxLen;omega) (by simpa using hs),fun g hg=>?_⟩
 simp [Value.ownBlock] at hg
 omega
section
variable {P:Program} {w:World} {ops:Array Oper} {rest:List Oper} {o:Oper} {a:Act} {Q:Exit→Act→World→Prop}
theorem wpList_app_sl (hgd:o.guard=none) (s x:Operand) (t:TypeId)
  (ho:o.op=.call { callee:=.builtin .append,args:=#[s,x],argTypes:=#[t,t] })
  (e:TypeId) (z:Value) (sz bytes:Nat) (ht:P.underlying t=some (.slice e)) (hinfo:(P.info? e).map (fun i=>(i.zero,i.size,i.bytes))=some (some z,sz,bytes))
  (hzs:z.cells.size=sz) (hsz:0<sz) (hby:bytes≤64)
  {lo hi lo' hi' n:Nat} {v:Value} {xs:List Value} (hs:a.eval s=v) (hown:Own sz lo hi e w v n xs)
  {vx:Value} {m:Nat} {ys:List Value} (hx:a.eval x=vx) (hsl:Sl sz lo' hi' w vx m ys) (h1:∀ u∈ys,u.oneCell'=true)
  (hn:n+m≤1073741824) (hlo:lo≤w.heap.size)
  (h:∀ v' w',Own sz lo w'.heap.size e w' v' (n+m) (xs++ys)→w.grownBy w' v.ownBlock→Outside lo hi w w'→(v'=.slice none 0 0↔v=.slice none 0 0∧m=0)→wpList P ops Q rest (a.put o.dst v') w'):wpList P ops Q (o :: rest) a w:=by
 obtain ⟨i,hi0,hz,hsize,hb⟩:=info_parts hinfo
 obtain ⟨ao,c,rfl,hmc,hcm,hlen,hnone,hc⟩:=hsl
 have hmx:(n+m)*bytes≤140737488355328:=Nat.le_trans (Nat.mul_le_mul hn hby) (by decide)
 cases ao with
 | none=>
  obtain rfl:=hnone rfl
  obtain rfl:m=0:=by omega
  obtain rfl:ys=[]:=List.eq_nil_of_length_eq_zero (by simpa using hlen)
  refine wpList_plain hgd fun K hK=>?_
  have hrun:=run_append_owned_none (P:=P) w lo t o.type e i sz ht hi0 _ n xs hown.1
  have hk:=h v w (by simpa using ⟨hown.1,fun g hg=>(hown.1.lt g hg).2⟩) (World.grownBy.refl _ _) (Outside.refl _ _ _) (by simp)
  unfold Oper.wp
  simp [execOp,ho,resolve,invoke,builtin,hs,hx,hrun,Result.andThen]
  exact hK _ _ hk
 | some ad=>
  refine wpList_append_own w hgd s x t ho lo e i z sz bytes ht hi0 hz hsize hb hzs hsz v n xs hs hown.1 ad m c ys hx hlen ?_ h1 (by unfold maxLen;omega) hmx hlo ?_
  ·intro j u hu
   have hj:=(List.getElem?_eq_some_iff.1 hu).1
   obtain ⟨b,off,e1,_,_,_,e2⟩:=hc j hj
   injection e1 with e1
   subst e1
   rw [Addr.add_lit,e2,hu]
  ·intro v' w' h2 h3 h4
   exact h v' w' (Own.of_row h2) h3 (grown_outside h3 hown.lt) h4
theorem wpList_app_lit (w0:World) (hgd:o.guard=none) (s x:Operand) (t:TypeId)
  (ho:o.op=.call { callee:=.builtin .append,args:=#[s,x],argTypes:=#[t,t] })
  (e:TypeId) (z:Value) (sz bytes:Nat) (ht:P.underlying t=some (.slice e)) (hinfo:(P.info? e).map (fun i=>(i.zero,i.size,i.bytes))=some (some z,sz,bytes))
  (hzs:z.cells.size=sz) (hsz:0<sz) (hby:bytes≤64)
  {lo hi n:Nat} {v:Value} {xs:List Value} (hs:a.eval s=v) (hown:Own sz lo hi e w0 v n xs)
  (m:Nat) (ys:List Value) (hx:a.eval x=.slice (some ⟨w0.heap.size,0,none⟩) m m) (hlen:ys.length=m*sz) (h1:∀ u∈ys,u.oneCell'=true) (hw:w=w0.alloc (.cells ys.toArray e))
  (hn:n+m≤1073741824) (hlo:lo≤w0.heap.size)
  (h:∀ v' w',Own sz lo w'.heap.size e w' v' (n+m) (xs++ys)→Outside lo hi w0 w'→(v'=.slice none 0 0↔v=.slice none 0 0∧m=0)→wpList P ops Q rest (a.put o.dst v') w'):wpList P ops Q (o :: rest) a w:=by
 subst hw
 have hl:=(Own.lit sz e w0 ys m (by omega) hlen).sl
 refine wpList_app_sl hgd s x t ho e z sz bytes ht hinfo hzs hsz hby hs (hown.alloc _) hx hl h1 hn (by simp;omega) ?_
 intro v' w' h2 _ h3 h4
 have hb:Outside lo hi w0 (w0.alloc (.cells ys.toArray e)):=Outside.of_below ((B_ _ _).alloc (le_ _) _) (le_ _)
 exact h v' w' h2 (hb.trans h3) h4
end
theorem ints_one (xs:List Int):∀ u∈ints xs,u.oneCell'=true:=ints_oneCell _ _
theorem ints_append (xs ys:List Int):ints (xs++ys)=ints xs++ints ys:=by simp [ints]
theorem alloc_size (w:World) (o:Obj):(w.alloc o).heap.size=w.heap.size+1:=by simp
def Blk (g:Nat) (o:Obj) (w:World):Prop:=w.heap[g]?=some o
theorem Blk.new (w:World) (o:Obj):Blk w.heap.size o (w.alloc o):=heap_alloc_new w o
theorem Blk.lt {g:Nat} {o:Obj} {w:World} (h:Blk g o w):g<w.heap.size:=(Array.getElem?_eq_some_iff.1 h).1
theorem Blk.below {g B:Nat} {o:Obj} {w w':World} (h:Blk g o w) (hb:Below B w w') (hB:g<B):Blk g o w':=(hb.block g hB).trans h
theorem Blk.outside {g lo hi:Nat} {o:Obj} {w w':World} (h:Blk g o w) (hb:Outside lo hi w w') (hd:g<lo∨hi≤g):Blk g o w':=(hb.block g h.lt (by omega)).trans h
theorem Blk.cell {g:Nat} {cs:Array Value} {e:TypeId} {f:Nat × Nat} {w:World} (h:Blk g (.cells cs e f) w) (j:Nat):w.cell? ⟨g,j,none⟩=cs[j]?:=by
 simp only [World.cell?,show w.heap[g]?=_ from h];rfl
theorem Blk.free {g:Nat} {cs:Array Value} {e:TypeId} {w:World} (h:Blk g (.cells cs e (0,0)) w) (j:Nat):w.frozen? ⟨g,j,none⟩=false:=by
 simp [World.frozen?,show w.heap[g]?=_ from h]
theorem l2Join_any (lo hi lo' hi':Nat) (va vb:Value) (xs ys:List Int) (s:Int) (w:World) (hx:SlI lo hi w va xs) (hy:SlI lo' hi' w vb ys) (hh:hi≤w.heap.size) (hh':hi'≤w.heap.size)
  (hm:xs.length+ys.length≤4194304) :
  Calls Tryz.prog 124 #[va,vb,.int .i64 s] w (RetV fun v w'=>Below w.heap.size w w'∧OwnI w.heap.size w'.heap.size 3 w' v (xs++ys++[s])):=by
 have HX:=H_ hx
 have HY:=H_ hy
 clear hx hy
 have H0:Hid (Own 1 w.heap.size (w.heap.size+1) 3 (w.alloc (.cells (ints []).toArray 3)) (.slice (some ⟨w.heap.size,0,none⟩) 0 0) 0 (ints [])):=H_ (Own.lit 1 3 w (ints []) 0 (by omega) rfl)
 have hb0:Hid (Below w.heap.size w (w.alloc (.cells (ints []).toArray 3))):=H_ ((B_ _ _).alloc (le_ _) _)
 have hs0:(w.alloc (.cells (ints []).toArray 3)).heap.size=w.heap.size+1:=by simp
 have KX:=H_ (HX.out.below hb0.out hh)
 have KY:=H_ (HY.out.below hb0.out hh')
 obtain ⟨w0,hw0⟩:∃ w0,w0=w.alloc (.cells (ints []).toArray 3):=⟨_,rfl⟩
 rw [←hw0] at H0 hb0 hs0 KX KY
 have HW0:=H_ hw0
 clear hw0
 go_enter Tryz.func124,Tryz.ntmps124
 go_wp2_with (at_builtin;go_loud (rw [show w.alloc (.cells #[] 3)=w0 from HW0.out.symm];refine wpList_app_sl rfl _ _ 22 rfl 3 (.int .i64 0) 1 8 Tryz.underlying22 info_int rfl (by decide) (by decide) rfl H0.out rfl KX.out (ints_one _) ?c1 ?c2 ?_))
 case c1=>omega
 case c2=>omega
 intro v1 w1 ho1 _ hout1 _
 have hs1:=hout1.size
 have O1:=H_ ho1
 replace KY:=H_ (KY.out.outside hout1 (.inl hh'))
 have HB1:=H_ (Below.outside hb0.out hout1 (le_ _) hb0.out.size)
 clear ho1 hout1 KX H0 hb0 HW0
 go_wp2_with (at_builtin;refine wpList_app_sl rfl _ _ 22 rfl 3 (.int .i64 0) 1 8 Tryz.underlying22 info_int rfl (by decide) (by decide) rfl O1.out rfl KY.out (ints_one _) ?c1 ?c2 ?_)
 case c1=>omega
 case c2=>omega
 intro v2 w2 ho2 _ hout2 _
 have hs2:=hout2.size
 have O2:=H_ ho2
 have HB2:=H_ (Below.outside HB1.out hout2 (le_ _) HB1.out.size)
 clear ho2 hout2 KY O1 HB1
 go_wp2_with (at_builtin;refine wpList_app_lit w2 rfl _ _ 22 rfl 3 (.int .i64 0) 1 8 Tryz.underlying22 info_int rfl (by decide) (by decide) rfl O2.out 1 (ints [s]) rfl rfl (ints_one _) rfl ?c1 ?c2 ?_)
 case c1=>omega
 case c2=>omega
 intro v3 w3 ho3 hout3 _
 have O3:=H_ ho3
 have HB3:=H_ (Below.outside HB2.out hout3 (le_ _) HB2.out.size)
 clear ho3 hout3 O2 HB2
 go_wp2
 go_ret
 refine RetV.mk _ rfl ⟨HB3.out,?_⟩
 have h:=O3.out
 have e1:(xs++ys++[s]).length=xs.length+ys.length+1:=by simp;omega
 have e2:ints (xs++ys++[s])=ints []++(ints xs++(ints ys++ints [s])):=by simp [ints]
 unfold OwnI
 rw [e1,e2]
 exact h
def isActB (n:Int):Bool:=decide (16≤n)&&decide (n≤18)
theorem isAct_any (n:Int) (w:World) :
  Calls Tryz.prog 176 #[.int .i64 n] w fun e w'=>e=.returned (.bool (isActB n))∧w=w':=by
 go_enter Tryz.func176,Tryz.ntmps176
 by_cases h1:16≤n
 ·by_cases h2:n≤18
  ·go_wp2
   go_ret
   exact ⟨ret_bool (by simp [isActB,h1,h2]),rfl⟩
  ·go_wp2
   go_ret
   exact ⟨ret_bool (by simp [isActB];omega),rfl⟩
 ·go_wp2
  go_ret
  exact ⟨ret_bool (by simp [isActB];omega),rfl⟩
def dig2 (n:Nat):List UInt8:=if n<10 then [UInt8.ofNat (48+n)] else [UInt8.ofNat (48+n/10),UInt8.ofNat (48+n%10)]
theorem ret_str {a b:List UInt8} (h:a=b):Ending.returned (.string ⟨a.toArray⟩)=.returned (.string ⟨b.toArray⟩):=by rw [h]
theorem conv_lit {P:Program} (src dst e:TypeId) (hs:P.underlying src=some (.slice e)) (he:P.underlying e=some (.int .u8)) (hd:P.underlying dst=some .string) (w:World) (ns:List Int) :
    Sem.run P (convert src dst (.slice (some ⟨w.heap.size,0,none⟩) ns.length ns.length)) (w.alloc (.cells (ns.map (Value.int .u8)).toArray e)) =
      .ok (.string ⟨(ns.map fun n=>UInt8.ofNat n.toNat).toArray⟩) (w.alloc (.cells (ns.map (Value.int .u8)).toArray e)):=by
  have h:=run_convert_bytes_arg (P:=P) (w:=w.alloc (.cells (ns.map (Value.int .u8)).toArray e)) src e hs he w.heap.size 0 ns.length ns.length ns rfl
    (by intro i hi
        rw [World.cell?,heap_alloc_new]
        simp [List.getD,hi]) dst hd
  exact h
structure Mv where
 which:Int
 back:Bool
 at_:Int
deriving DecidableEq
def encMv (m:Mv):List Value:=[.int .i64 m.which,.bool m.back,.int .i64 m.at_]
def mvs (l:List Mv):List Value:=l.flatMap encMv
theorem mvs_length (l:List Mv):(mvs l).length=l.length*3:=by
 induction l with
 | nil=>rfl
 | cons m r ih=>simp only [mvs,List.flatMap_cons,List.length_append] at *;rw [ih];simp [encMv];omega
theorem mvs_get (l:List Mv):∀ (i:Nat) (h:i<l.length),(mvs l)[i*3]?=some (.int .i64 l[i].which)∧(mvs l)[i*3+1]?=some (.bool l[i].back)∧(mvs l)[i*3+2]?=some (.int .i64 l[i].at_):=by
 induction l with
 | nil=>intro i h;simp at h
 | cons m r ih=>
  intro i h
  cases i with
  | zero=>simp [mvs,encMv]
  | succ i=>
   have hi:i<r.length:=by simpa using h
   obtain ⟨h1,h2,h3⟩:=ih i hi
   have e:∀ j,(mvs (m :: r))[(i+1)*3+j]?=(mvs r)[i*3+j]?:=by
    intro j
    have:(mvs (m :: r))=encMv m++mvs r:=by simp [mvs]
    rw [this,List.getElem?_append_right (by simp [encMv];omega)]
    congr 1
    simp [encMv];omega
   refine ⟨?_,?_,?_⟩
   ·rw [show (i+1)*3=(i+1)*3+0 by omega,e 0];simpa using h1
   ·rw [e 1];simpa using h2
   ·rw [e 2];simpa using h3
theorem mvs_one (l:List Mv):∀ u∈mvs l,u.oneCell'=true:=by
 intro u hu
 simp only [mvs,List.mem_flatMap] at hu
 obtain ⟨m,_,hm⟩:=hu
 simp [encMv] at hm
 rcases hm with rfl|rfl|rfl<;>rfl
def SlM (lo hi:Nat) (w:World) (v:Value) (l:List Mv):Prop:=Sl 3 lo hi w v l.length (mvs l)
def OwnM (lo hi e:Nat) (w:World) (v:Value) (l:List Mv):Prop:=Own 3 lo hi e w v l.length (mvs l)
theorem OwnM.sl {lo hi e:Nat} {w:World} {v:Value} {l:List Mv} (h:OwnM lo hi e w v l):SlM lo hi w v l:=Own.sl h
theorem OwnM.below {lo hi e B:Nat} {w w':World} {v:Value} {xs:List Mv} (h:OwnM lo hi e w v xs) (hb:Below B w w') (hB:hi≤B):OwnM lo hi e w' v xs:=Own.below h hb hB
theorem OwnM.outside {lo hi lo' hi' e:Nat} {w w':World} {v:Value} {xs:List Mv} (h:OwnM lo hi e w v xs) (hb:Outside lo' hi' w w') (hd:hi≤lo'∨hi'≤lo):OwnM lo hi e w' v xs:=Own.outside h hb hd
theorem SlM.below {lo hi B:Nat} {w w':World} {v:Value} {xs:List Mv} (h:SlM lo hi w v xs) (hb:Below B w w') (hB:hi≤B):SlM lo hi w' v xs:=Sl.below h hb hB
theorem SlM.outside {lo hi lo' hi':Nat} {w w':World} {v:Value} {xs:List Mv} (h:SlM lo hi w v xs) (hb:Outside lo' hi' w w') (hd:hi≤lo'∨hi'≤lo):SlM lo hi w' v xs:=Sl.outside h hb hd
theorem SlM.wide {lo hi lo' hi':Nat} {w:World} {v:Value} {xs:List Mv} (h:SlM lo hi w v xs) (h1:lo'≤lo) (h2:hi≤hi'):SlM lo' hi' w v xs:=Sl.wide h h1 h2
theorem SlM.shape {lo hi:Nat} {w:World} {v:Value} {xs:List Mv} (h:SlM lo hi w v xs):∃ a cap,v=.slice a xs.length cap∧xs.length≤cap∧cap≤maxLen:=Sl.shape h
theorem SlM.get {lo hi cap n:Nat} {w:World} {a:Option Addr} {l:List Mv} (h:SlM lo hi w (.slice a n cap) l) (i:Nat) (hi':i<l.length) :
  ∃ b off,a=some ⟨b,off,none⟩∧lo≤b∧b<hi∧b<w.heap.size∧w.cell? ⟨b,off+i*3,none⟩=some (.int .i64 l[i].which)∧w.cell? ⟨b,off+i*3+1,none⟩=some (.bool l[i].back) ∧
   w.cell? ⟨b,off+i*3+2,none⟩=some (.int .i64 l[i].at_):=by
 obtain ⟨a',cap',e,_,_,_,_,hc⟩:=h
 injection e with e1 _ _
 subst e1
 obtain ⟨g1,g2,g3⟩:=mvs_get l i hi'
 have hl:=mvs_length l
 obtain ⟨b,off,e,h1,h2,h3,h4⟩:=hc (i*3) (by omega)
 obtain ⟨b',off',e',_,_,_,h5⟩:=hc (i*3+1) (by omega)
 obtain ⟨b'',off'',e'',_,_,_,h6⟩:=hc (i*3+2) (by omega)
 rw [e] at e' e''
 injection e' with e';injection e' with e1 e2;subst e1 e2
 injection e'' with e'';injection e'' with e1 e2;subst e1 e2
 exact ⟨b,off,e,h1,h2,h3,by rw [h4,g1],by rw [Nat.add_assoc,h5,g2],by rw [Nat.add_assoc,h6,g3]⟩
theorem one_own (x:Int) (w:World):OwnI w.heap.size (w.alloc (.cells #[.int .i64 x] 3)).heap.size 3 (w.alloc (.cells #[.int .i64 x] 3)) (.slice (some ⟨w.heap.size,0,none⟩) 1 1) [x]:=
 Own.wide (Own.lit 1 3 w (ints [x]) 1 (by omega) rfl) (by simp)
theorem OwnI.lower {lo lo' hi hi' e:Nat} {w:World} {v:Value} {xs:List Int} (h:OwnI lo hi e w v xs) (h1:lo'≤lo) (h2:hi≤hi'):OwnI lo' hi' e w v xs:=Own.wide2 h h1 h2
theorem OwnI.len {lo hi e n:Nat} {w:World} {v:Value} {xs:List Int} (h:Own 1 lo hi e w v n (ints xs)) (hn:n=xs.length):OwnI lo hi e w v xs:=by subst hn;exact h
theorem OwnI.wide2' {lo hi hi' e:Nat} {w:World} {v:Value} {xs:List Int} (h:OwnI lo hi e w v xs) (hh:hi≤hi'):OwnI lo hi' e w v xs:=Own.wide h hh
theorem OwnI.wide2 {lo lo' hi hi' e:Nat} {w:World} {v:Value} {xs:List Int} (h:OwnI lo hi e w v xs) (hl:lo'≤lo) (hh:hi≤hi'):OwnI lo' hi' e w v xs:=Own.wide2 h hl hh
theorem one_own' (x:Int) (w:World):OwnI w.heap.size (w.heap.size+1) 3 (w.alloc (.cells #[.int .i64 x] 3)) (.slice (some ⟨w.heap.size,0,none⟩) 1 1) [x]:=
 Own.lit 1 3 w (ints [x]) 1 (by omega) rfl
theorem own:ownKnob Tryz.prog.godebug=none:=by kernel_rfl
theorem laidOut:laidOutB Tryz.prog=true:=by kernel_rfl
def IsRow (k:IntKind) (w:World) (a:Option Addr) (len cap:Nat) (zs:List Int):Prop:=
 (a=none∧len=0∧cap=0∧zs=[]) ∨
 ∃ x,a=some x∧len≤cap∧cap≤maxLen∧zs.length=cap∧(∀ i,i<zs.length→w.cell? (x.add i)=some (.int k (zs.getD i 0)))∧∀ n∈zs,(Lit.int k n).wf=true
theorem cell_spot {w:World} {x:Addr} {v:Value} (h:w.cell? x=some v):x.spot=none:=by
 unfold World.cell? at h
 split at h
 ·split at h
  ·cases h
  ·rename_i hn;simpa using hn
 ·cases h
theorem IsRow.sl {k:IntKind} {w:World} {a:Option Addr} {len cap:Nat} {zs:List Int} (h:IsRow k w a len cap zs) :
  (zs.take len).length=len∧Sl 1 0 w.heap.size w (.slice a len cap) len ((zs.take len).map (Value.int k)):=by
 rcases h with ⟨rfl,rfl,rfl,rfl⟩|⟨x,rfl,hl,hm,hz,hc,_⟩
 ·exact ⟨rfl,none,0,rfl,le_ _,by simp [maxLen],rfl,fun _=>rfl,fun i hi=>by simp at hi⟩
 ·have hl':(zs.take len).length=len:=by simp;omega
  refine ⟨hl',some x,cap,rfl,hl,hm,by simpa using hl',(by intro h;cases h),fun i hi=>?_⟩
  rw [List.length_map,hl'] at hi
  have h0:=hc 0 (by omega)
  have hs:=cell_spot h0
  obtain ⟨b,off,sp⟩:=x
  have hsp:sp=none:=by
   have:(⟨b,off,sp⟩:Addr).add 0=⟨b,off,sp⟩:=by simp [Addr.add]
   rw [this] at hs
   exact hs
  subst hsp
  have hi':=hc i (by omega)
  rw [Addr.add_lit] at hi'
  refine ⟨b,off,rfl,Nat.zero_le _,World.block_lt_of_cell? w _ h0,World.block_lt_of_cell? w _ h0,?_⟩
  rw [hi',List.getElem?_map,List.getElem?_take,if_pos hi,List.getElem?_eq_getElem (by omega)]
  simp [List.getD,List.getElem?_eq_getElem (show i<zs.length by omega)]
theorem IsRow.ints {w:World} {a:Option Addr} {len cap:Nat} {zs:List Int} (h:IsRow .i64 w a len cap zs):∃ xs,SlI 0 w.heap.size w (.slice a len cap) xs:=by
 obtain ⟨h1,h2⟩:=h.sl
 refine ⟨zs.take len,?_⟩
 unfold SlI
 rw [h1]
 exact h2
end Go.Proofs.YtfnnhimopokpnaaGreatDoor
