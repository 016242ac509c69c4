/- Lemmas for this seat; no condition. -/
import Derived.Test.YtfnnhimopokpnaaGreatDoorHAAA
import Derived.Deep.RegionHeldLaw
import Derived.Deep.RegionHeld3
namespace Go.Proofs.YtfnnhimopokpnaaGreatDoor
open Go.RowKit
set_option maxRecDepth 100000
set_option maxHeartbeats 0
set_option linter.unusedVariables false
theorem toMove_any (m:Mv) (w:World) :
  Calls Tryz.prog 75 #[.agg #[.int .i64 m.which,.bool m.back,.int .i64 m.at_]] w fun e w'=>e=.returned (.agg #[.int .i64 m.which,.bool m.back,.int .i64 m.at_])∧Below w.heap.size w w':=by
 go_enter Tryz.func75,Tryz.ntmps75
 go_wp2
 refine bodyPost_ret (v:=.agg #[.int .i64 m.which,.bool m.back,.int .i64 m.at_]) (by simp [results,Tryz.results75,go_sem]) rfl ⟨rfl,?_⟩
 exact (((B_ _ _).alloc (le_ _) _).alloc (by simp) _).alloc (by simp;omega) _
def eqMv (m n:Mv):Bool:=decide (m=n)
theorem eqMove_any (m n:Mv) (w:World) :
  Calls Tryz.prog 78 #[.agg #[.int .i64 m.which,.bool m.back,.int .i64 m.at_],.agg #[.int .i64 n.which,.bool n.back,.int .i64 n.at_]] w fun e w'=>e=.returned (.bool (eqMv m n))∧Below w.heap.size w w':=by
 obtain ⟨a1,a2,a3⟩:=m
 obtain ⟨b1,b2,b3⟩:=n
 have hb:Hid (∀ o1 o2,Below w.heap.size w ((w.alloc o1).alloc o2)):=H_ fun o1 o2=>((B_ _ _).alloc (le_ _) _).alloc (by simp) _
 by_cases h1:a1=b1
 ·subst h1
  by_cases h2:a2=b2
  ·subst h2
   by_cases h3:a3=b3
   ·subst h3
    have e1:(a1 !=a1)=false:=by simp
    have e3:(a3 !=a3)=false:=by simp
    go_enter Tryz.func78,Tryz.ntmps78
    go_wp2
    go_ret
    exact ⟨ret_bool (by simp [eqMv]),hb.out _ _⟩
   ·have e1:(a1 !=a1)=false:=by simp
    have e3:(a3 !=b3)=true:=by simp [h3]
    have H3:=H_ h3
    clear h3
    go_enter Tryz.func78,Tryz.ntmps78
    go_wp2
    go_ret
    exact ⟨ret_bool (by simp [eqMv,H3.out]),hb.out _ _⟩
  ·have e1:(a1 !=a1)=false:=by simp
   have e2:(a2==b2)=false:=by simp [h2]
   have H2:=H_ h2
   clear h2
   go_enter Tryz.func78,Tryz.ntmps78
   go_wp2
   go_ret
   exact ⟨ret_bool (by simp [eqMv,H2.out]),hb.out _ _⟩
 ·have e1:(a1 !=b1)=true:=by simp [h1]
  have H1:=H_ h1
  clear h1
  go_enter Tryz.func78,Tryz.ntmps78
  go_wp2
  go_ret
  exact ⟨ret_bool (by simp [eqMv,H1.out]),hb.out _ _⟩
def eqMs (xs ys:List Mv):Bool:=decide (xs=ys)
theorem eqMs_len {xs ys:List Mv} (h:xs.length≠ys.length):eqMs xs ys=false:=by
 unfold eqMs;rw [decide_eq_false_iff_not];intro e;exact h (by rw [e])
theorem eqMs_ne {xs ys:List Mv} {k:Nat} (h1:k<xs.length) (h2:k<ys.length) (h:eqMv xs[k] ys[k]=false):eqMs xs ys=false:=by
 unfold eqMs;rw [decide_eq_false_iff_not];intro e;subst e;simp [eqMv] at h
theorem eqMs_all {xs ys:List Mv} (hl:xs.length=ys.length) (h:∀ j (h1:j<xs.length) (h2:j<ys.length),xs[j]=ys[j]):eqMs xs ys=true:=by
 unfold eqMs;rw [decide_eq_true_eq];exact List.ext_getElem hl h
theorem eqMoveS_any (lo hi lo' hi':Nat) (v v':Value) (xs ys:List Mv) (w:World) (hx:SlM lo hi w v xs) (hy:SlM lo' hi' w v' ys) (hh:hi≤w.heap.size) (hh':hi'≤w.heap.size) (hm:xs.length≤1048576) :
    Calls Tryz.prog 39 #[v,v'] w fun e w'=>e=.returned (.bool (eqMs xs ys))∧Below w.heap.size w w':=by
  obtain ⟨a,cap,rfl,hcap,hcm⟩:=hx.shape
  obtain ⟨a',cap',rfl,hcap',hcm'⟩:=hy.shape
  have HX:=H_ hx
  have HY:=H_ hy
  clear hx hy hcm hcm' hcap hcap'
  by_cases hl:xs.length=ys.length
  · have HL:=H_ hl
    have hl1:((xs.length:Int) !=ys.length)=false:=by simp [hl]
    have hm':ys.length≤1048576:=by omega
    clear hl
    go_enter Tryz.func39,Tryz.ntmps39
    go_wp2
    go_loopw [5] (fun i wr=>∃ k:Nat,k≤xs.length∧i=.int .i64 k∧Hid (∀ j (h1:j<k) (h2:j<xs.length) (h3:j<ys.length),xs[j]=ys[j])∧Below w.heap.size w wr) (fun i _=>xs.length-(intOf i).toNat)
    case atStart=>exact ⟨0,by omega,rfl,H_ (by intro j h;omega),B_ _ _⟩
    case round=>
      obtain ⟨k,hk,rfl,HJ,hb⟩:=hrel
      by_cases hlt:k<xs.length
      · have hlt':k<ys.length:=by have:=HL.out;omega
        obtain ⟨b,off,rfl,_,_,hbs,c1,c2,c3⟩:=(HX.out.below hb hh).get k hlt
        obtain ⟨b',off',rfl,_,_,hbs',c1',c2',c3'⟩:=(HY.out.below hb hh').get k hlt'
        have HB:=H_ hb
        have hsz:=hb.size
        clear hb
        go_wp2
        go_region_with (go_at_call 78;refine (eqMove_any xs[k] ys[k] _).mono ?_;rintro e w1 ⟨rfl,hb1⟩)
        all_goals go_wp2
        all_goals first
          | (go_ret
             have hv':(!eqMv xs[k] ys[k])=true:=by assumption
             have hv:eqMv xs[k] ys[k]=false:=by simpa using hv'
             exact ⟨ret_bool (eqMs_ne hlt hlt' hv).symm,HB.out.drew.trans (hb1.mono hsz)⟩)
          | (go_roundw
             case rel=>
               have hv':(!eqMv xs[k] ys[k])=false:=by assumption
               have hv:eqMv xs[k] ys[k]=true:=by simpa using hv'
               refine ⟨k+1,by omega,by go_num,H_ ?_,HB.out.drew.trans (hb1.mono hsz)⟩
               intro j h1 h2 h3
               rcases Nat.lt_or_ge j k with h|h
               · exact HJ.out j h h2 h3
               · obtain rfl:j=k:=by omega
                 simpa [eqMv] using hv
             case measure=>simp [intOf];omega)
      · go_wp2
        go_ret
        exact ⟨ret_bool (eqMs_all HL.out fun j h1 h2=>HJ.out j (by omega) h1 h2).symm,hb⟩
  · have HL:=H_ hl
    have hl1:((xs.length:Int) !=ys.length)=true:=by simp;omega
    clear hl
    go_enter Tryz.func39,Tryz.ntmps39
    go_wp2
    go_ret
    exact ⟨ret_bool (eqMs_len HL.out).symm,B_ _ _⟩
def mvK (k:Int):Mv:=⟨k,(k+1)%3==0,k+2⟩
def seqM (k:Int) (n:Nat):List Mv:=(List.range n).map (fun i=>mvK (k+3*(i:Nat)))
theorem seqM_length (k:Int) (n:Nat):(seqM k n).length=n:=by simp [seqM]
theorem seqM_get (k:Int) (n i:Nat) (h:i<n):(seqM k n)[i]'(by rw [seqM_length];exact h)=mvK (k+3*(i:Nat)):=by simp [seqM]
theorem mvs_over (ys xs:List Mv) (hl:ys.length=xs.length) (k:Nat) (h:k<xs.length) :
  (((over (mvs ys) (mvs xs) (k*3)).set (k*3) (.int .i64 (ys[k]'(by omega)).which)).set (k*3+1) (.bool (ys[k]'(by omega)).back)).set (k*3+2) (.int .i64 (ys[k]'(by omega)).at_)=over (mvs ys) (mvs xs) ((k+1)*3):=by
 have h1:=mvs_length ys
 have h2:=mvs_length xs
 obtain ⟨g1,g2,g3⟩:=mvs_get ys k (by omega)
 rw [over_set _ _ _ (by omega) (by omega) _ g1,over_set _ _ _ (by omega) (by omega) _ g2,over_set _ _ _ (by omega) (by omega) _ g3]
 congr 1
 omega
theorem markMoveS_any (lo hi:Nat) (v:Value) (xs:List Mv) (k:Int) (w:World) (hx:OwnM lo hi 67 w v xs) (hm:xs.length≤1048576) (hk0:0≤k) (hk1:k≤1000000000000) :
  Calls Tryz.prog 41 #[v,.int .i64 k] w fun e w'=>
   e=.returned (.int .i64 (k+3*xs.length))∧Outside lo hi w w'∧OwnM lo hi 67 w' v (seqM k xs.length):=by
 have hx':=hx
 obtain ⟨a,cap,rfl,hcap,hcm,hlen,hopen⟩:=Own.open hx
 have hown0:=hx'.1
 have HLT:=H_ hx'.2
 clear hx hx' hlen
 go_enter Tryz.func41,Tryz.ntmps41
 go_wp2
 go_loopw [1,5] (fun c i wr=>∃ j:Nat,j≤xs.length∧i=.int .i64 j∧c=.int .i64 (k+3*j)∧wr.ownsRow lo 67 3 (.slice a xs.length cap) xs.length (over (mvs (seqM k xs.length)) (mvs xs) (j*3))∧Outside lo hi w wr) (fun _ i _=>xs.length-(intOf i).toNat)
 case atStart=>exact ⟨0,by omega,rfl,by simp,by rw [Nat.zero_mul,over_zero];exact hown0,Outside.refl _ _ _⟩
 case round=>
  obtain ⟨j,hj,rfl,rfl,hown,hout⟩:=hrel
  clear hown0
  by_cases hlt:j<xs.length
  ·obtain ⟨g,rfl,hg1,hg2⟩:=hopen (by omega)
   have hl1:(mvs (seqM k xs.length)).length=(mvs xs).length:=by rw [mvs_length,mvs_length,seqM_length]
   have hl2:=mvs_length xs
   have hw0:wr.cell? ⟨g,j*3,none⟩=(mvs xs)[j*3]?:=by rw [hown.cellAt _ (by omega),over_get _ _ _ hl1 (by omega)]
   have hol:=over_length (mvs (seqM k xs.length)) (mvs xs) (j*3) hl1
   obtain ⟨y1,hw1⟩:∃ y,wr.cell? ⟨g,j*3,none⟩=some y:=⟨_,by rw [hown.cellAt _ (by omega)];exact List.getElem?_eq_getElem (by omega)⟩
   obtain ⟨y2,hw2⟩:∃ y,wr.cell? ⟨g,j*3+1,none⟩=some y:=⟨_,by rw [hown.cellAt _ (by omega)];exact List.getElem?_eq_getElem (by omega)⟩
   obtain ⟨y3,hw3⟩:∃ y,wr.cell? ⟨g,j*3+2,none⟩=some y:=⟨_,by rw [hown.cellAt _ (by omega)];exact List.getElem?_eq_getElem (by omega)⟩
   have hf1:=hown.frozenAt (j*3)
   have hf2:=hown.frozenAt (j*3+1)
   have hf3:=hown.frozenAt (j*3+2)
   have hg:=seqM_get k xs.length j hlt
   have HS:Hid ((((wr.setCell ⟨g,j*3,none⟩ (.int .i64 (k+3*j))).setCell ⟨g,j*3+1,none⟩ (.bool ((k+3*j+1)%3==0))).setCell ⟨g,j*3+2,none⟩ (.int .i64 (k+3*j+1+1))).ownsRow lo 67 3 (.slice (some ⟨g,0,none⟩) xs.length cap) xs.length (over (mvs (seqM k xs.length)) (mvs xs) ((j+1)*3))):=by
    have h1:=(hown.stored (j*3) (.int .i64 (k+3*j))).1
    have h2:=(h1.stored (j*3+1) (.bool ((k+3*j+1)%3==0))).1
    have h3:=(h2.stored (j*3+2) (.int .i64 (k+3*j+1+1))).1
    have h4:=mvs_over (seqM k xs.length) xs (seqM_length _ _) j hlt
    rw [hg] at h4
    simp only [mvK] at h4
    rw [←h4]
    have e:k+3*(j:Int)+2=k+3*j+1+1:=by omega
    rw [e]
    exact H_ h3
   have HO:=H_ (((hout.setCell (p:=⟨g,j*3,none⟩) hg1 hg2 (.int .i64 (k+3*j))).setCell (p:=⟨g,j*3+1,none⟩) hg1 hg2 (.bool ((k+3*j+1)%3==0))).setCell (p:=⟨g,j*3+2,none⟩) hg1 hg2 (.int .i64 (k+3*j+1+1)))
   clear hopen hown hout hl1 hl2 hw0 hol hg
   go_wp2
   go_roundw
   case rel=>
    exact ⟨j+1,by omega,by go_num,by congr 1;omega,HS.out,HO.out⟩
   case measure=>simp [intOf];omega
  ·obtain rfl:j=xs.length:=by omega
   go_wp2
   go_ret
   rw [over_all _ _ _ (by rw [mvs_length];exact le_ _) (by rw [mvs_length,seqM_length];exact le_ _)] at hown
   exact ⟨rfl,hout,by rw [seqM_length];exact hown,HLT.out⟩
theorem heldMoveS_any (lo hi:Nat) (v:Value) (n:Nat) (k:Int) (w:World) (hx:SlM lo hi w v (seqM k n)) (hm:n≤1048576) (hk0:0≤k) (hk1:k≤1000000000000) :
  Calls Tryz.prog 44 #[v,.int .i64 k] w fun e w'=>
   e=.returned (.int .i64 (k+3*n))∧w'=w:=by
 obtain ⟨a,cap,rfl,hcap,hcm⟩:=hx.shape
 have HX:=H_ hx
 rw [seqM_length] at *
 clear hx
 go_enter Tryz.func44,Tryz.ntmps44
 go_wp2
 go_loop [1,5] (fun c i=>∃ j:Nat,j≤n∧i=.int .i64 j∧c=.int .i64 (k+3*j)) (fun _ i=>n-(intOf i).toNat)
 case atStart=>exact ⟨0,by omega,rfl,by simp⟩
 case round=>
  obtain ⟨j,hj,rfl,rfl⟩:=hrel
  by_cases hlt:j<n
  ·obtain ⟨b,off,rfl,_,_,_,c1,c2,c3⟩:=HX.out.get j (by rw [seqM_length];exact hlt)
   rw [seqM_get k n j hlt] at c1 c2 c3
   simp only [mvK] at c1 c2 c3
   have ht:((k+3*j:Int) !=k+3*j)=false:=by simp
   have ht2:((k+3*j+2:Int) !=k+3*j+1+1)=false:=by simp;omega
   go_wp2
   go_round
   case rel=>exact ⟨j+1,by omega,by go_num,by congr 1;omega⟩
   case measure=>simp [intOf];omega
  ·obtain rfl:j=n:=by omega
   go_wp2
   go_ret
   exact ⟨rfl,rfl⟩
theorem info_mv:(Tryz.prog.info? 67).map (fun i=>(i.zero,i.size,i.bytes))=some (some (.agg #[.int .i64 0,.bool false,.int .i64 0]),3,24):=by kernel_rfl
def mv0:Mv:=⟨0,false,0⟩
theorem made_mvs (n:Nat):(madeCells #[.int .i64 0,.bool false,.int .i64 0] (n*3)).toList=mvs (List.replicate n mv0):=by
 induction n with
 | zero=>simp [madeCells,mvs]
 | succ n ih=>
  rw [List.replicate_succ',mvs,List.flatMap_append]
  rw [show List.flatMap encMv (List.replicate n mv0)=mvs (List.replicate n mv0) from rfl,←ih]
  simp only [madeCells,Array.toList_map,Array.toList_range]
  rw [show (n+1)*3=n*3+3 by omega,List.range_add,List.map_append]
  congr 1
  simp [List.range_succ,Nat.add_mod,encMv,mv0]
theorem ownsRow_ltM {w:World} {base e sz g n c:Nat} {xs:List Value} (h:w.ownsRow base e sz (.slice (some ⟨g,0,none⟩) n c) n xs):g<w.heap.size:=by
 rcases h.2 with ⟨h,_⟩|⟨g',cap',cur,h,_,h2,_⟩
 ·simp at h
 ·simp only [Value.slice.injEq,Option.some.injEq,Addr.mk.injEq] at h
  rw [h.1.1]
  exact (Array.getElem?_eq_some_iff.1 h2).1
theorem ownsRow_belowM {w w':World} {base e sz g n c:Nat} {xs:List Value} (h:w.ownsRow base e sz (.slice (some ⟨g,0,none⟩) n c) n xs) (hb:Below w.heap.size w w'):w'.ownsRow base e sz (.slice (some ⟨g,0,none⟩) n c) n xs:=
 (Own.below (hi:=g+1) ⟨h,fun g' hg=>by simp [Value.ownBlock] at hg;omega⟩ hb (ownsRow_ltM h)).1
theorem toMoveS_any (lo hi:Nat) (v:Value) (xs:List Mv) (w:World) (hx:SlM lo hi w v xs) (hh:hi≤w.heap.size) (hm:xs.length≤1048576) :
  Calls Tryz.prog 36 #[v] w (RetV fun v' w'=>Below w.heap.size w w'∧OwnM w.heap.size w'.heap.size 67 w' v' xs):=by
 obtain ⟨i0,hi',hz0,hz1,hz2⟩:=info_parts info_mv
 obtain ⟨a,cap,rfl,hcap,hcm⟩:=hx.shape
 have HX:=H_ hx
 clear hx hcm
 go_enter Tryz.func36,Tryz.ntmps36
 go_wp2_with ((at_make;refine wpList_make_full _ rfl _ _ 29 rfl w.heap.size 67 i0 (.agg #[.int .i64 0,.bool false,.int .i64 0]) 3 Tryz.underlying29 hi' hz0 hz1 .i64 .i64 xs.length xs.length xs.length rfl rfl rfl rfl ?c1 ?c2 ?c3 ?c4))
 case c1=>rw [hz2];omega
 case c2=>simp [maxLen];omega
 case c3=>exact le_ _
 case c4=>
  intro w1 hown hg
  have hb1:Below w.heap.size w w1:=(B_ _ _).grown hg (le_ _) (by simp)
  rw [made_mvs] at hown
  clear hg hi' hz0 hz1 hz2
  go_wp2
  go_loopw [4] (fun i wr=>∃ k,k≤xs.length∧i=.int .i64 k∧wr.ownsRow w.heap.size 67 3 (.slice (some ⟨w.heap.size,0,none⟩) xs.length xs.length) xs.length (over (mvs xs) (mvs (List.replicate xs.length mv0)) (k*3))∧Below w.heap.size w wr) (fun i _=>xs.length-(intOf i).toNat)
  case atStart=>exact ⟨0,by omega,rfl,by rw [Nat.zero_mul,over_zero];exact hown,hb1⟩
  case round=>
   obtain ⟨k,hk,rfl,hown,hbk⟩:=hrel
   clear hb1
   by_cases hlt:k<xs.length
   ·obtain ⟨b,off,rfl,_,hbh,hbs,q0,q1,q2⟩:=(HX.out.below hbk hh).get k hlt
    have HO:=H_ hown
    have HB:=H_ hbk
    have hsz:=hbk.size
    clear hown hbk
    go_wp2_with fail
    refine (toMove_any xs[k] _).mono ?_
    rintro e w2 ⟨rfl,hb2⟩
    have HB2:=H_ (HB.out.trans (hb2.mono hsz))
    have hown:=ownsRow_belowM HO.out hb2
    clear hb2 q0 q1 q2
    have hl1:(mvs xs).length=(mvs (List.replicate xs.length mv0)).length:=by rw [mvs_length,mvs_length,List.length_replicate]
    have hl2:=mvs_length xs
    have hol:=over_length (mvs xs) (mvs (List.replicate xs.length mv0)) (k*3) hl1
    obtain ⟨y0,hw0⟩:∃ y,w2.cell? ⟨w.heap.size,k*3,none⟩=some y:=⟨_,by rw [hown.cellAt _ (by omega)];exact List.getElem?_eq_getElem (by omega)⟩
    obtain ⟨y1,hw1⟩:∃ y,w2.cell? ⟨w.heap.size,k*3+1,none⟩=some y:=⟨_,by rw [hown.cellAt _ (by omega)];exact List.getElem?_eq_getElem (by omega)⟩
    obtain ⟨y2,hw2⟩:∃ y,w2.cell? ⟨w.heap.size,k*3+2,none⟩=some y:=⟨_,by rw [hown.cellAt _ (by omega)];exact List.getElem?_eq_getElem (by omega)⟩
    have hf0:=hown.frozenAt (k*3)
    have hf1:=hown.frozenAt (k*3+1)
    have hf2:=hown.frozenAt (k*3+2)
    have HS:Hid ((((w2.setCell ⟨w.heap.size,k*3,none⟩ (.int .i64 xs[k].which)).setCell ⟨w.heap.size,k*3+1,none⟩ (.bool xs[k].back)).setCell ⟨w.heap.size,k*3+2,none⟩ (.int .i64 xs[k].at_)).ownsRow w.heap.size 67 3 (.slice (some ⟨w.heap.size,0,none⟩) xs.length xs.length) xs.length (over (mvs xs) (mvs (List.replicate xs.length mv0)) ((k+1)*3))):=by
     have h1:=(hown.stored (k*3) (.int .i64 xs[k].which)).1
     have h2:=(h1.stored (k*3+1) (.bool xs[k].back)).1
     have h3:=(h2.stored (k*3+2) (.int .i64 xs[k].at_)).1
     rw [mvs_over xs (List.replicate xs.length mv0) (by rw [List.length_replicate]) k (by rw [List.length_replicate];exact hlt)] at h3
     exact H_ h3
    have HBS:=H_ (((HB2.out.setCell (p:=⟨w.heap.size,k*3,none⟩) (le_ _) (.int .i64 xs[k].which)).setCell (p:=⟨w.heap.size,k*3+1,none⟩) (le_ _) (.bool xs[k].back)).setCell (p:=⟨w.heap.size,k*3+2,none⟩) (le_ _) (.int .i64 xs[k].at_))
    clear hown hl1 hl2 hol
    go_wp2
    go_roundw
    case rel=>exact ⟨k+1,by omega,by go_num,HS.out,HBS.out⟩
    case measure=>simp [intOf];omega
   ·obtain rfl:k=xs.length:=by omega
    go_wp2
    go_ret
    rw [over_all _ _ _ (by rw [mvs_length,List.length_replicate];exact le_ _) (by rw [mvs_length];exact le_ _)] at hown
    exact .mk _ rfl ⟨hbk,hown,fun g hg=>(hown.lt g hg).2⟩
theorem szMoveS_any (n:Nat) (a:Option Addr) (cap:Nat) (k r:Int) (hn:n≤9223372036854775807) (hk:k≤1048576) (hk2:-1≤k) (h1:k-n<0→r=-1) (h2:0≤k-n→r=k-n) (w:World) :
  Calls Tryz.prog 33 #[.slice a n cap,.int .i64 k] w fun e w'=>e=.returned (.int .i64 r)∧w=w':=by
 by_cases h:k-n<0
 ·obtain rfl:=h1 h
  go_enter Tryz.func33,Tryz.ntmps33
  go_wp2
  go_ret
  exact ⟨rfl,rfl⟩
 ·obtain rfl:=h2 (by omega)
  go_enter Tryz.func33,Tryz.ntmps33
  go_wp2
  go_ret
  exact ⟨rfl,rfl⟩
theorem Own.shape {sz lo hi e n:Nat} {w:World} {v:Value} {xs:List Value} (h:Own sz lo hi e w v n xs):∃ a cap,v=.slice a n cap:=by
 obtain ⟨a,cap,h,_⟩:=Own.open h
 exact ⟨a,cap,h⟩
structure Dsk where
 first:List Int
 goal:List Int
 made:List Mv
 now:List Int
deriving DecidableEq
def Dsk.size (d:Dsk):Nat:=d.first.length+d.goal.length+d.made.length+d.now.length
structure DeskAt (lo hi:Nat) (w:World) (a b c d:Value) (D:Dsk):Prop where
 first:SlI lo hi w a D.first
 goal:SlI lo hi w b D.goal
 made:SlM lo hi w c D.made
 now:SlI lo hi w d D.now
theorem DeskAt.below {lo hi B:Nat} {w w':World} {a b c d:Value} {D:Dsk} (h:DeskAt lo hi w a b c d D) (hb:Below B w w') (hB:hi≤B):DeskAt lo hi w' a b c d D:=
 ⟨h.first.below hb hB,h.goal.below hb hB,h.made.below hb hB,h.now.below hb hB⟩
theorem DeskAt.outside {lo hi lo' hi':Nat} {w w':World} {a b c d:Value} {D:Dsk} (h:DeskAt lo hi w a b c d D) (hb:Outside lo' hi' w w') (hd:hi≤lo'∨hi'≤lo):DeskAt lo hi w' a b c d D:=
 ⟨h.first.outside hb hd,h.goal.outside hb hd,h.made.outside hb hd,h.now.outside hb hd⟩
structure DeskOwn (lo hi:Nat) (w:World) (a b c d:Value) (D:Dsk):Prop where
 ranges:∃ l1 h1 l2 h2 l3 h3 l4 h4,OwnI l1 h1 3 w a D.first∧OwnI l2 h2 3 w b D.goal∧OwnM l3 h3 67 w c D.made∧OwnI l4 h4 3 w d D.now ∧
  (lo≤l1∧l1≤h1∧h1≤hi)∧(lo≤l2∧l2≤h2∧h2≤hi)∧(lo≤l3∧l3≤h3∧h3≤hi)∧(lo≤l4∧l4≤h4∧h4≤hi) ∧
  (h1≤l2∨h2≤l1)∧(h1≤l3∨h3≤l1)∧(h1≤l4∨h4≤l1)∧(h2≤l3∨h3≤l2)∧(h2≤l4∨h4≤l2)∧(h3≤l4∨h4≤l3)
theorem DeskOwn.at {lo hi:Nat} {w:World} {a b c d:Value} {D:Dsk} (h:DeskOwn lo hi w a b c d D):DeskAt lo hi w a b c d D:=by
 obtain ⟨l1,h1,l2,h2,l3,h3,l4,h4,o1,o2,o3,o4,r1,r2,r3,r4,_⟩:=h
 exact ⟨o1.sl.wide r1.1 r1.2.2,o2.sl.wide r2.1 r2.2.2,o3.sl.wide r3.1 r3.2.2,o4.sl.wide r4.1 r4.2.2⟩
theorem DeskOwn.below {lo hi B:Nat} {w w':World} {a b c d:Value} {D:Dsk} (h:DeskOwn lo hi w a b c d D) (hb:Below B w w') (hB:hi≤B):DeskOwn lo hi w' a b c d D:=by
 obtain ⟨l1,h1,l2,h2,l3,h3,l4,h4,o1,o2,o3,o4,r1,r2,r3,r4,rest⟩:=h
 exact ⟨l1,h1,l2,h2,l3,h3,l4,h4,o1.below hb (by omega),o2.below hb (by omega),o3.below hb (by omega),o4.below hb (by omega),r1,r2,r3,r4,rest⟩
theorem DeskOwn.outside {lo hi lo' hi':Nat} {w w':World} {a b c d:Value} {D:Dsk} (h:DeskOwn lo hi w a b c d D) (hb:Outside lo' hi' w w') (hd:hi≤lo'∨hi'≤lo):DeskOwn lo hi w' a b c d D:=by
 obtain ⟨l1,h1,l2,h2,l3,h3,l4,h4,o1,o2,o3,o4,r1,r2,r3,r4,rest⟩:=h
 exact ⟨l1,h1,l2,h2,l3,h3,l4,h4,o1.outside hb (by omega),o2.outside hb (by omega),o3.outside hb (by omega),o4.outside hb (by omega),r1,r2,r3,r4,rest⟩
theorem DeskOwn.wide {lo hi lo' hi':Nat} {w:World} {a b c d:Value} {D:Dsk} (h:DeskOwn lo hi w a b c d D) (h1:lo'≤lo) (h2:hi≤hi'):DeskOwn lo' hi' w a b c d D:=by
 obtain ⟨l1,h1,l2,h2,l3,h3,l4,h4,o1,o2,o3,o4,r1,r2,r3,r4,rest⟩:=h
 exact ⟨l1,h1,l2,h2,l3,h3,l4,h4,o1,o2,o3,o4,by omega,by omega,by omega,by omega,rest⟩
def Dsk.mark (d:Dsk) (k:Int):Dsk:=
 ⟨seqI k d.first.length,seqI (k+d.first.length) d.goal.length,seqM (k+d.first.length+d.goal.length) d.made.length,seqI (k+d.first.length+d.goal.length+3*d.made.length) d.now.length⟩
def Dsk.count (d:Dsk) (k:Int):Int:=k+d.first.length+d.goal.length+3*d.made.length+d.now.length
theorem eqL_same (xs:List Int):eqL xs xs=true:=by simp [eqL]
theorem eqIntS_same (lo hi lo' hi':Nat) (v v':Value) (xs:List Int) (w:World) (hx:SlI lo hi w v xs) (hy:SlI lo' hi' w v' xs) (hm:xs.length≤1048576) :
  Calls Tryz.prog 38 #[v,v'] w fun e w'=>e=.returned (.bool true)∧Below w.heap.size w w':=by
 refine (eqIntS_any lo hi lo' hi' v v' xs xs w hx hy hm).mono ?_
 rintro e w' ⟨rfl,m,rfl⟩
 rw [eqL_same]
 exact ⟨rfl,below_drewN (B_ _ _) _⟩
theorem eqMoveS_same (lo hi lo' hi':Nat) (v v':Value) (xs:List Mv) (w:World) (hx:SlM lo hi w v xs) (hy:SlM lo' hi' w v' xs) (hh:hi≤w.heap.size) (hh':hi'≤w.heap.size) (hm:xs.length≤1048576) :
  Calls Tryz.prog 39 #[v,v'] w fun e w'=>e=.returned (.bool true)∧Below w.heap.size w w':=by
 refine (eqMoveS_any lo hi lo' hi' v v' xs xs w hx hy hh hh' hm).mono ?_
 rintro e w' ⟨rfl,h⟩
 rw [show eqMs xs xs=true by simp [eqMs]]
 exact ⟨rfl,h⟩
abbrev aggD (a b c d:Value):Value:=.agg #[a,b,c,d]
theorem eqDesk_same (lo hi lo' hi':Nat) (a b c d a' b' c' d':Value) (D:Dsk) (w:World) (hx:DeskAt lo hi w a b c d D) (hy:DeskAt lo' hi' w a' b' c' d' D) (hh:hi≤w.heap.size) (hh':hi'≤w.heap.size) (hm:D.size≤1048576) :
  Calls Tryz.prog 13 #[aggD a b c d,aggD a' b' c' d'] w fun e w'=>e=.returned (.bool true)∧Below w.heap.size w w':=by
 unfold Dsk.size at hm
 have HX:=H_ hx
 have HY:=H_ hy
 clear hx hy
 obtain ⟨w0,hw0⟩:∃ w0,w0=(w.alloc (.cells #[a,b,c,d] 31)).alloc (.cells #[a',b',c',d'] 31):=⟨_,rfl⟩
 have HB0:Hid (Below w.heap.size w w0):=by rw [hw0];exact H_ (((B_ _ _).alloc (le_ _) _).alloc (by simp) _)
 have K1:Hid (Blk w.heap.size (.cells #[a,b,c,d] 31) w0):=by
  rw [hw0];exact H_ ((Blk.new w _).below ((B_ (w.alloc _).heap.size _).alloc (le_ _) _) (by simp))
 have K2:Hid (Blk (w.heap.size+1) (.cells #[a',b',c',d'] 31) w0):=by
  have:=Blk.new (w.alloc (.cells #[a,b,c,d] 31)) (.cells #[a',b',c',d'] 31)
  rw [alloc_size] at this
  rw [hw0];exact H_ this
 have hsz:w.heap.size+2≤w0.heap.size:=by rw [hw0];simp
 go_enter Tryz.func13,Tryz.ntmps13
 go_wp2_with fail
 simp only [←hw0]
 clear hw0
 refine (eqIntS_same _ _ _ _ _ _ D.first _ (HX.out.first.below HB0.out hh) (HY.out.first.below HB0.out hh') (by omega)).mono ?_
 rintro e w1 ⟨rfl,hb⟩
 have HB1:=H_ (HB0.out.trans (hb.mono (by omega)))
 replace K1:=H_ (K1.out.below hb (by omega));replace K2:=H_ (K2.out.below hb (by omega))
 have hs1:=hb.size
 have c0:=K1.out.cell 1
 have c1:=K2.out.cell 1
 clear hb
 go_wp2_with fail
 clear c0 c1
 refine (eqIntS_same _ _ _ _ _ _ D.goal _ (HX.out.goal.below HB1.out hh) (HY.out.goal.below HB1.out hh') (by omega)).mono ?_
 rintro e w2 ⟨rfl,hb⟩
 have HB2:=H_ (HB1.out.trans (hb.mono (by omega)))
 replace K1:=H_ (K1.out.below hb (by omega));replace K2:=H_ (K2.out.below hb (by omega))
 have hs2:=hb.size
 have c0:=K1.out.cell 2
 have c1:=K2.out.cell 2
 clear hb
 go_wp2_with fail
 clear c0 c1
 refine (eqMoveS_same _ _ _ _ _ _ D.made _ (HX.out.made.below HB2.out hh) (HY.out.made.below HB2.out hh') (by omega) (by omega) (by omega)).mono ?_
 rintro e w3 ⟨rfl,hb⟩
 have HB3:=H_ (HB2.out.trans (hb.mono (by omega)))
 replace K1:=H_ (K1.out.below hb (by omega));replace K2:=H_ (K2.out.below hb (by omega))
 have c0:=K1.out.cell 3
 have c1:=K2.out.cell 3
 clear hb
 go_wp2_with fail
 refine (eqIntS_same _ _ _ _ _ _ D.now _ (HX.out.now.below HB3.out hh) (HY.out.now.below HB3.out hh') (by omega)).mono ?_
 rintro e w4 ⟨rfl,hb⟩
 have HB4:=H_ (HB3.out.trans (hb.mono HB3.out.size))
 clear hb
 go_wp2
 go_ret
 exact ⟨rfl,HB4.out⟩
theorem markDesk_any (lo hi:Nat) (a b c d:Value) (D:Dsk) (k:Int) (w:World) (hx:DeskOwn lo hi w a b c d D) (hh:hi≤w.heap.size) (hm:D.size≤1048576) (hk0:0≤k) (hk1:k≤1000000) :
  Calls Tryz.prog 15 #[aggD a b c d,.int .i64 k] w fun e w'=>e=.returned (.int .i64 (D.count k))∧Outside lo hi w w'∧DeskOwn lo hi w' a b c d (D.mark k):=by
 unfold Dsk.size at hm
 obtain ⟨l1,h1,l2,h2,l3,h3,l4,h4,o1,o2,o3,o4,r1,r2,r3,r4,x1,x2,x3,x4,x5,x6⟩:=hx
 obtain ⟨w0,hw0⟩:∃ w0,w0=w.alloc (.cells #[a,b,c,d] 31):=⟨_,rfl⟩
 have hb0:Below w.heap.size w w0:=by rw [hw0];exact (B_ _ _).alloc (le_ _) _
 have K1:Hid (Blk w.heap.size (.cells #[a,b,c,d] 31) w0):=by rw [hw0];exact H_ (Blk.new w _)
 have hsz:w.heap.size+1≤w0.heap.size:=by rw [hw0];simp
 have O1:=H_ (o1.below hb0 (by omega))
 have O2:=H_ (o2.below hb0 (by omega))
 have O3:=H_ (o3.below hb0 (by omega))
 have O4:=H_ (o4.below hb0 (by omega))
 have HO:=H_ (Outside.of_below (lo:=lo) (hi:=hi) hb0 (le_ _))
 clear hb0 o1 o2 o3 o4
 go_enter Tryz.func15,Tryz.ntmps15
 go_wp2_with fail
 simp only [←hw0]
 clear hw0
 refine (markIntS_any l1 h1 _ D.first k _ O1.out (by omega) (by omega) (by omega)).mono ?_
 rintro e w1 ⟨rfl,ho,q1⟩
 replace O1:=H_ q1
 replace HO:=H_ (HO.out.trans (ho.wide (by omega) (by omega)))
 replace K1:=H_ (K1.out.outside ho (by omega));replace O2:=H_ (O2.out.outside ho (by omega));replace O3:=H_ (O3.out.outside ho (by omega));replace O4:=H_ (O4.out.outside ho (by omega))
 have hs1:=ho.size
 have c0:=K1.out.cell 1
 clear ho q1
 go_wp2_with fail
 clear c0
 refine (markIntS_any l2 h2 _ D.goal _ _ O2.out (by omega) (by omega) (by omega)).mono ?_
 rintro e w2 ⟨rfl,ho,q1⟩
 replace O2:=H_ q1
 replace HO:=H_ (HO.out.trans (ho.wide (by omega) (by omega)))
 replace K1:=H_ (K1.out.outside ho (by omega));replace O1:=H_ (O1.out.outside ho (by omega));replace O3:=H_ (O3.out.outside ho (by omega));replace O4:=H_ (O4.out.outside ho (by omega))
 have hs2:=ho.size
 have c0:=K1.out.cell 2
 clear ho q1
 go_wp2_with fail
 clear c0
 refine (markMoveS_any l3 h3 _ D.made _ _ O3.out (by omega) (by omega) (by omega)).mono ?_
 rintro e w3 ⟨rfl,ho,q1⟩
 replace O3:=H_ q1
 replace HO:=H_ (HO.out.trans (ho.wide (by omega) (by omega)))
 replace K1:=H_ (K1.out.outside ho (by omega));replace O1:=H_ (O1.out.outside ho (by omega));replace O2:=H_ (O2.out.outside ho (by omega));replace O4:=H_ (O4.out.outside ho (by omega))
 have hs3:=ho.size
 have c0:=K1.out.cell 3
 clear ho q1
 go_wp2_with fail
 clear c0
 refine (markIntS_any l4 h4 _ D.now _ _ O4.out (by omega) (by omega) (by omega)).mono ?_
 rintro e w4 ⟨rfl,ho,q1⟩
 replace O4:=H_ q1
 replace HO:=H_ (HO.out.trans (ho.wide (by omega) (by omega)))
 replace O1:=H_ (O1.out.outside ho (by omega));replace O2:=H_ (O2.out.outside ho (by omega));replace O3:=H_ (O3.out.outside ho (by omega))
 clear ho q1
 go_wp2
 go_ret
 exact ⟨rfl,HO.out,l1,h1,l2,h2,l3,h3,l4,h4,O1.out,O2.out,O3.out,O4.out,r1,r2,r3,r4,x1,x2,x3,x4,x5,x6⟩
theorem heldDesk_any (lo hi:Nat) (a b c d:Value) (D:Dsk) (k:Int) (w:World) (hx:DeskAt lo hi w a b c d (D.mark k)) (hh:hi≤w.heap.size) (hm:D.size≤1048576) (hk0:0≤k) (hk1:k≤1000000) :
  Calls Tryz.prog 17 #[aggD a b c d,.int .i64 k] w fun e w'=>e=.returned (.int .i64 (D.count k))∧Below w.heap.size w w':=by
 unfold Dsk.size at hm
 obtain ⟨w0,hw0⟩:∃ w0,w0=w.alloc (.cells #[a,b,c,d] 31):=⟨_,rfl⟩
 have HB0:Hid (Below w.heap.size w w0):=by rw [hw0];exact H_ ((B_ _ _).alloc (le_ _) _)
 have K1:Hid (Blk w.heap.size (.cells #[a,b,c,d] 31) w0):=by rw [hw0];exact H_ (Blk.new w _)
 have HX:=H_ (hx.below HB0.out hh)
 clear hx
 have c1:=K1.out.cell 1
 have c2:=K1.out.cell 2
 have c3:=K1.out.cell 3
 go_enter Tryz.func17,Tryz.ntmps17
 go_wp2_with fail
 simp only [←hw0]
 clear hw0
 refine (heldIntS_any lo hi _ D.first.length k _ HX.out.first (by omega) (by omega) (by omega)).mono ?_
 rintro e w1 ⟨rfl,rfl⟩
 go_wp2_with fail
 refine (heldIntS_any lo hi _ D.goal.length _ _ HX.out.goal (by omega) (by omega) (by omega)).mono ?_
 rintro e w1 ⟨rfl,rfl⟩
 go_wp2_with fail
 refine (heldMoveS_any lo hi _ D.made.length _ _ HX.out.made (by omega) (by omega) (by omega)).mono ?_
 rintro e w1 ⟨rfl,rfl⟩
 go_wp2_with fail
 refine (heldIntS_any lo hi _ D.now.length _ _ HX.out.now (by omega) (by omega) (by omega)).mono ?_
 rintro e w1 ⟨rfl,rfl⟩
 go_wp2
 go_ret
 exact ⟨rfl,HB0.out⟩
section
variable {P:Program} {w:World}
theorem step_app_sl {ops:Array Oper} {o:Oper} {a:Act} {K:Act→World→Prop} {Q:Exit→Act→World→Prop} {E:Prop} (hgd:o.guard=none) (s x:Operand) (t:TypeId)
  (ho:o.op=.call { callee:=.builtin .append,args:=#[s,x],argTypes:=#[t,t] })
  (e:TypeId) (z:Value) (sz bytes:Nat) (ht:P.underlying t=some (.slice e)) (hinfo:(P.info? e).map (fun i=>(i.zero,i.size,i.bytes))=some (some z,sz,bytes))
  (hzs:z.cells.size=sz) (hsz:0<sz) (hby:bytes≤64)
  {lo hi lo' hi' n:Nat} {v:Value} {xs:List Value} (hs:a.eval s=v) (hown:Own sz lo hi e w v n xs)
  {ad:Addr} {m c:Nat} {ys:List Value} (hx:a.eval x=.slice (some ad) m c) (hsl:Sl sz lo' hi' w (.slice (some ad) m c) m ys) (h1:∀ u∈ys,u.oneCell'=true)
  (hn:n+m≤1073741824) (hlo:lo≤w.heap.size)
  (h:∀ v' w',Own sz lo w'.heap.size e w' v' (n+m) (xs++ys)→Outside lo hi w w'→K (a.put o.dst v') w') :
  if Region.wanted o (yielded ops a.tmps)=true then Oper.wp P o a w K Q else E:=by
 have hw:Region.wanted o (yielded ops a.tmps)=true:=by simp [Region.wanted,hgd]
 rw [if_pos hw]
 obtain ⟨i,hi0,hz,hsize,hb⟩:=info_parts hinfo
 obtain ⟨ao,c',e',hmc,hcm,hlen,hnone,hc⟩:=hsl
 injection e' with e1 e2 e3
 subst e1 e3
 have hmx:(n+m)*bytes≤140737488355328:=Nat.le_trans (Nat.mul_le_mul hn hby) (by decide)
 refine wp_append_own w s x t ho lo e i z sz bytes ht hi0 hz hsize hb hzs hsz v n xs hs hown.1 ad m c ys hx hlen ?_ h1 (by unfold maxLen;omega) hmx hlo ?_
 ·intro j u hu
  have hj:=(List.getElem?_eq_some_iff.1 hu).1
  obtain ⟨b,off,e1,_,_,_,e2⟩:=hc j hj
  injection e1 with e1
  subst e1
  rw [Addr.add_lit,e2,hu]
 ·intro v' w' h2 h3 _
  exact h v' w' (Own.of_row h2) (grown_outside h3 hown.lt)
end
section
variable {P:Program} {w:World}
theorem step_app_gr {ops:Array Oper} {o:Oper} {a:Act} {K:Act→World→Prop} {Q:Exit→Act→World→Prop} {E:Prop} (hgd:o.guard=none) (s x:Operand) (t:TypeId)
  (ho:o.op=.call { callee:=.builtin .append,args:=#[s,x],argTypes:=#[t,t] })
  (e:TypeId) (z:Value) (sz bytes:Nat) (ht:P.underlying t=some (.slice e)) (hinfo:(P.info? e).map (fun i=>(i.zero,i.size,i.bytes))=some (some z,sz,bytes))
  (hzs:z.cells.size=sz) (hsz:0<sz) (hby:bytes≤64)
  {lo hi lo' hi' n:Nat} {v:Value} {xs:List Value} (hs:a.eval s=v) (hown:Own sz lo hi e w v n xs)
  {ad:Addr} {m c:Nat} {ys:List Value} (hx:a.eval x=.slice (some ad) m c) (hsl:Sl sz lo' hi' w (.slice (some ad) m c) m ys) (h1:∀ u∈ys,u.oneCell'=true)
  (hn:n+m≤1073741824) (hlo:lo≤w.heap.size)
  (h:∀ v' w',Own sz lo w'.heap.size e w' v' (n+m) (xs++ys)→Outside lo hi w w'→w.grownBy w' v.ownBlock→K (a.put o.dst v') w') :
  if Region.wanted o (yielded ops a.tmps)=true then Oper.wp P o a w K Q else E:=by
 have hw:Region.wanted o (yielded ops a.tmps)=true:=by simp [Region.wanted,hgd]
 rw [if_pos hw]
 obtain ⟨i,hi0,hz,hsize,hb⟩:=info_parts hinfo
 obtain ⟨ao,c',e',hmc,hcm,hlen,hnone,hc⟩:=hsl
 injection e' with e1 e2 e3
 subst e1 e3
 have hmx:(n+m)*bytes≤140737488355328:=Nat.le_trans (Nat.mul_le_mul hn hby) (by decide)
 refine wp_append_own w s x t ho lo e i z sz bytes ht hi0 hz hsize hb hzs hsz v n xs hs hown.1 ad m c ys hx hlen ?_ h1 (by unfold maxLen;omega) hmx hlo ?_
 ·intro j u hu
  have hj:=(List.getElem?_eq_some_iff.1 hu).1
  obtain ⟨b,off,e1,_,_,_,e2⟩:=hc j hj
  injection e1 with e1
  subst e1
  rw [Addr.add_lit,e2,hu]
 ·intro v' w' h2 h3 _
  exact h v' w' (Own.of_row h2) (grown_outside h3 hown.lt) h3
end
theorem info_ints:(Tryz.prog.info? 22).map (fun i=>(i.zero,i.size,i.bytes))=some (some (.slice none 0 0),1,24):=by kernel_rfl
end Go.Proofs.YtfnnhimopokpnaaGreatDoor
