/- Lemmas for this seat; no condition. -/
import Derived.Test.YtfnnhimopokpnaaGreatDoorHAAR
import Derived.Test.YtfnnhimopokpnaaGreatDoorHASort
namespace Go.Proofs.YtfnnhimopokpnaaGreatDoor
open Go.RowKit
set_option maxRecDepth 100000
set_option maxHeartbeats 0
set_option linter.unusedVariables false
section
theorem post_mem:∀ {t:KT},t.ok 0=true→∀ s∈t.post,(0≤s∧s≤18)∨s=19∨s=20∨s=21
 | .leaf n,h,s,hs=>by
  simp only [KT.ok,Bool.and_eq_true,decide_eq_true_eq] at h
  simp only [KT.post,List.mem_singleton] at hs
  subst hs
  exact .inl h
 | .star t,h,s,hs=>by
  simp only [KT.ok] at h
  simp only [KT.post,List.mem_append,List.mem_singleton] at hs
  rcases hs with hs|rfl
  ·exact post_mem h s hs
  ·simp
 | .bin p a b,h,s,hs=>by
  simp only [KT.ok,Bool.and_eq_true] at h
  simp only [KT.post,List.mem_append,List.mem_singleton] at hs
  rcases hs with (hs|hs)|rfl
  ·exact post_mem h.1 s hs
  ·exact post_mem h.2 s hs
  ·cases p<;>simp [KT.op]
def endsS (st:List KT):List Int:=(st.map fun t=>((endsK t:Nat):Int)).reverse
theorem endsS_cons (t:KT) (st:List KT):endsS (t :: st)=endsS st++[((endsK t:Nat):Int)]:=by simp [endsS]
theorem endsS_len (st:List KT):(endsS st).length=st.length:=by simp [endsS]
theorem push_ends {s:Int} {st st':List KT} (h:pushK s st=some st') (hs:(0≤s∧s≤18)∨s=19∨s=20∨s=21) :
  (16≤s∧s≤18∧endsS st'=endsS st++[0])∨(0≤s∧s≤15∧endsS st'=endsS st++[s]) ∨
  (s=19∧∃ r x y:KT,∃ q:List KT,st=y :: x :: q∧endsS st'=endsS q++[((endsK x &&& endsK y:Nat):Int)]) ∨
  (s=20∧∃ r x y:KT,∃ q:List KT,st=y :: x :: q∧endsS st'=endsS q++[((endsK x ||| endsK y:Nat):Int)]) ∨
  (s=21∧∃ x:KT,∃ q:List KT,st=x :: q∧endsS st'=endsS q++[15]):=by
 rcases hs with ⟨h0,h1⟩|rfl|rfl|rfl
 ·have ht:=takesI_leaf h1
  simp only [pushK,ht] at h
  rw [if_neg (by omega),if_neg (by omega)] at h
  injection h with h
  subst h
  rw [endsS_cons]
  by_cases h16:16≤s
  ·exact .inl ⟨h16,h1,by simp [endsK,h16]⟩
  ·exact .inr (.inl ⟨h0,by omega,by simp [endsK,h16];omega⟩)
 ·right;right;left
  refine ⟨rfl,?_⟩
  unfold pushK at h
  rw [if_pos (by rfl)] at h
  split at h
  ·injection h with h
   subst h
   rename_i b a r
   exact ⟨a,a,b,r,rfl,by rw [endsS_cons];rfl⟩
  ·cases h
 ·right;right;right;left
  refine ⟨rfl,?_⟩
  unfold pushK at h
  rw [if_pos (by rfl)] at h
  split at h
  ·injection h with h
   subst h
   rename_i b a r
   exact ⟨a,a,b,r,rfl,by rw [endsS_cons];rfl⟩
  ·cases h
 ·right;right;right;right
  refine ⟨rfl,?_⟩
  unfold pushK at h
  rw [if_neg (by decide),if_pos (by rfl)] at h
  split at h
  ·injection h with h
   subst h
   rename_i a r
   exact ⟨a,r,rfl,by rw [endsS_cons];rfl⟩
  ·cases h
theorem ends_le:∀ {t:KT},t.ok 0=true→endsK t<16
 | .leaf n,h=>by
  simp only [KT.ok,Bool.and_eq_true,decide_eq_true_eq] at h
  simp only [endsK]
  split<;>omega
 | .star t,_=>by simp [endsK]
 | .bin p a b,h=>by
  simp only [KT.ok,Bool.and_eq_true] at h
  have ha:=ends_le h.1
  have hb:=ends_le h.2
  simp only [endsK]
  cases p
  ·exact Nat.lt_of_le_of_lt Nat.and_le_left ha
  ·exact Nat.or_lt_two_pow (n:=4) ha hb
theorem own_cell {lo hi e n cap g:Nat} {w:World} {xs:List Value} (h:Own 1 lo hi e w (.slice (some ⟨g,0,none⟩) n cap) n xs) (j:Nat) (hj:j<xs.length):w.cell? ⟨g,j,none⟩=some xs[j]:=by
 have:=h.1.cells (g:=g) rfl j xs[j] (List.getElem?_eq_getElem hj)
 rwa [Addr.add_lit,Nat.zero_add] at this
def EndsTo (w0 wr:World) (e:List Int) (k:Nat) (v:Value) (st:List KT):Prop:=
 Own 1 w0.heap.size wr.heap.size 3 wr v st.length (ints (endsS st))∧Below w0.heap.size w0 wr∧runK (e.take k) []=some st∧st.length≤k∧oks 0 st
theorem ends_step {w0 wr w1:World} {e:List Int} {k n cap:Nat} {a:Option Addr} {v:Value} {st st':List KT} {xs:List Value} (h:EndsTo w0 wr e k v st) (hr:runK (e.take (k+1)) []=some st') {s:Int} (hp:pushK s st=some st') (hs:0≤s∧s≤21)
  (ho:Own 1 w0.heap.size w1.heap.size 3 w1 (.slice a n cap) n xs) (hx:xs=ints (endsS st')) (hout:Outside w0.heap.size wr.heap.size wr w1) (hl:st'.length≤st.length+1):EndsTo w0 w1 e (k+1) (.slice a n cap) st':=by
 have hn:n=st'.length:=by
  have h1:=ho.1.1
  rw [hx,ints_length,endsS_len] at h1
  omega
 subst hn hx
 exact ⟨ho,Below.outside h.2.1 hout (le_ _) (by have:=h.2.1.size;omega),hr,by have:=h.2.2.2.1;omega,oks_push hs.1 hs.2 h.2.2.2.2 hp⟩
theorem ends_two {w0 wr w5:World} {e:List Int} {k n cap:Nat} {a:Option Addr} {v:Value} {st st' q:List KT} {s z z':Int} {o:Obj} (h:EndsTo w0 wr e k v st) (hr:runK (e.take (k+1)) []=some st') (hp:pushK s st=some st') (hs:0≤s∧s≤21) (he:endsS st'=endsS q++[z]) (hl:st'.length≤st.length+1)
  (ho:Own 1 w0.heap.size w5.heap.size 3 w5 (.slice a n cap) n (ints (endsS q)++ints [z'])) (hz:z'=z) (hout:Outside w0.heap.size wr.heap.size (wr.alloc o).drew w5):EndsTo w0 w5 e (k+1) (.slice a n cap) st':=by
 subst hz
 have hb:Below wr.heap.size wr (wr.alloc o).drew:=Below.drew (al_below _ _)
 exact ends_step h hr hp hs ho (by rw [he,ints_append]) ((Outside.of_below hb (le_ _)).trans hout) hl
theorem ends_any (lo hi:Nat) (v:Value) (t:KT) (w:World) (hx:SlI lo hi w v t.post) (hh:hi≤w.heap.size) (hm:t.size≤1000000) (ht:t.ok 0=true) :
  Calls Tryz.prog 149 #[v] w fun e w'=>e=.returned (.int .i64 ((endsK t:Nat):Int))∧Below w.heap.size w w':=by
 have hl:=t.post_length
 have hrun:=runK_post 0 t ht []
 have hmem:=fun s h=>post_mem ht s h
 obtain ⟨e,he⟩:∃ e,e=t.post:=⟨_,rfl⟩
 rw [←he] at hx hl hrun hmem
 obtain ⟨a,cap,rfl,hcap,hcm⟩:=Sl.shape hx
 have HX:=H_ hx
 have HT:=H_ hrun
 have HM:=H_ hmem
 have HL:=H_ hl
 clear hx hrun hmem he hl
 unfold maxLen at hcm
 have hl2:e.length≤1000000:=by have:=HL.out;omega
 go_enter Tryz.func149,Tryz.ntmps149
 go_wp2
 go_loopw [3,9] (fun v i wr=>∃ (k:Nat) (st:List KT),k≤e.length∧i=.int .i64 k∧Hid (EndsTo w wr e k v st)) (fun _ i _=>e.length-(intOf i).toNat)
 case atStart=>exact ⟨0,[],by omega,rfl,H_ ⟨Own.nil _ _ _ _ _,B_ _ _,by simp [runK],le_ _,fun t ht=>by cases ht⟩⟩
 case round=>
  obtain ⟨k,st,hk,rfl,HR⟩:=hrel
  by_cases hlt:k<e.length
  ·obtain ⟨st',hpush,hrun'⟩:=runK_take HT.out k hlt HR.out.2.2.1
   obtain ⟨b,off,rfl,_,_,hbs,hcell⟩:=SlI.get (HX.out.below HR.out.2.1 hh) k hlt
   have hsz:=HR.out.2.1.size
   have hn:=HR.out.2.2.2.1
   have hpl:=(pushK_takes hpush).2
   obtain ⟨s,hs⟩:∃ s,s=e[k]:=⟨_,rfl⟩
   rw [←hs] at hpush hcell hpl
   have htb:=takesI_bd s
   have hsl:st'.length≤st.length+1:=by omega
   have hsm:=HM.out s (by rw [hs];exact List.getElem_mem _)
   have hgr:0≤s∧s≤21:=by omega
   have hcase:=push_ends hpush hsm
   have HPU:=H_ hpush
   have HRN:=H_ hrun'
   clear hpush hrun' hs hsm hpl htb
   rcases hcase with ⟨h1,h2,he'⟩|⟨h1,h2,he'⟩|⟨rfl,hq⟩|⟨rfl,hq⟩|⟨rfl,hq⟩
   ·have HIS:=H_ (show isActB s=true by simp [isActB,h1,h2])
    obtain ⟨sa,sc,rfl⟩:=Own.shape HR.out.1
    have hown:=HR.out.1
    go_wp2_with (first | (go_at_call 176;refine (isAct_any s _).mono ?_;rintro e_ _ ⟨rfl,rfl⟩;rw [HIS.out]) | (at_builtin;refine wpList_app_lit _ rfl _ _ 22 rfl 3 (.int .i64 0) 1 8 Tryz.underlying22 info_int rfl (by decide) (by decide) rfl hown 1 (ints [0]) rfl rfl (ints_one _) rfl ?c1 ?c2 ?_))
    case c1=>omega
    case c2=>omega
    intro v' w5 hown5 hout5 _
    obtain ⟨a',cap',rfl⟩:=Own.shape hown5
    have H5:=H_ (ends_step HR.out HRN.out HPU.out hgr hown5 (by rw [he',ints_append]) hout5 (by omega))
    clear hown hown5 hout5
    go_wp2
    go_roundw
    case rel=>exact ⟨k+1,st',by omega,by go_num,H5⟩
    case measure=>simp [intOf];omega
   ·have HIS:=H_ (show isActB s=false by simp [isActB];omega)
    obtain ⟨sa,sc,rfl⟩:=Own.shape HR.out.1
    have hown:=HR.out.1
    have n19:(s==19)=false:=by simp;omega
    have n20:(s==20)=false:=by simp;omega
    have n21:(s==21)=false:=by simp;omega
    go_wp2_with (first | (go_at_call 176;refine (isAct_any s _).mono ?_;rintro e_ _ ⟨rfl,rfl⟩;rw [HIS.out]) | (at_builtin;refine wpList_app_lit _ rfl _ _ 22 rfl 3 (.int .i64 0) 1 8 Tryz.underlying22 info_int rfl (by decide) (by decide) rfl hown 1 (ints [s]) rfl rfl (ints_one _) rfl ?c1 ?c2 ?_))
    case c1=>omega
    case c2=>omega
    intro v' w5 hown5 hout5 _
    obtain ⟨a',cap',rfl⟩:=Own.shape hown5
    have H5:=H_ (ends_step HR.out HRN.out HPU.out hgr hown5 (by rw [he',ints_append]) hout5 (by omega))
    clear hown hown5 hout5
    go_wp2
    go_roundw
    case rel=>exact ⟨k+1,st',by omega,by go_num,H5⟩
    case measure=>simp [intOf];omega
   ·have HIS:=H_ (show isActB 19=false by decide)
    obtain ⟨r_,x,y,q,rfl,he'⟩:=hq
    have hex:=ends_le (HR.out.2.2.2.2 x (by simp))
    have hey:=ends_le (HR.out.2.2.2.2 y (by simp))
    have hown:=HR.out.1
    have HSL:=H_ hsl
    simp only [List.length_cons] at hown hn hsl
    obtain ⟨sa,sc,rfl,hc1,hc2,_,hc3⟩:=Own.open hown
    obtain ⟨g,rfl,hg1,hg2⟩:=hc3 (by omega)
    unfold maxLen at hc2
    have hes:endsS (y :: x :: q)=endsS q++[((endsK x:Nat):Int),((endsK y:Nat):Int)]:=by simp [endsS]
    rw [hes] at hown
    have hql:=endsS_len q
    have r1:wr.drew.cell? ⟨g,q.length,none⟩=some (.int .i64 ((endsK x:Nat):Int)):=by
     have h:=own_cell hown q.length (by rw [ints_length];simp;omega)
     simpa [ints,hql] using h
    have r2:wr.drew.cell? ⟨g,q.length+1,none⟩=some (.int .i64 ((endsK y:Nat):Int)):=by
     have h:=own_cell hown (q.length+1) (by rw [ints_length];simp;omega)
     simpa [ints,hql] using h
    have HF:=H_ (Own.front (m:=q.length) (ys:=ints (endsS q)) (ks:=ints [((endsK x:Nat):Int),((endsK y:Nat):Int)]) (by rw [←ints_append];exact hown) (by rw [ints_length,hql]) (by simp))
    have hbl:Below wr.heap.size wr (wr.alloc (.cells #[.int .i64 (bits .and .i64 ((endsK x:Nat):Int) ((endsK y:Nat):Int))] 3)).drew:=Below.drew (al_below _ _)
    have hblz:=hbl.size
    have HFW:=H_ (HF.out.below hbl (by omega))
    have HL:Hid (Sl 1 wr.heap.size (wr.heap.size+1) (wr.alloc (.cells #[.int .i64 (bits .and .i64 ((endsK x:Nat):Int) ((endsK y:Nat):Int))] 3)).drew (.slice (some ⟨wr.heap.size,0,none⟩) 1 1) 1 (ints [bits .and .i64 ((endsK x:Nat):Int) ((endsK y:Nat):Int)])):=H_ ((Own.lit 1 3 wr (ints [_]) 1 (by omega) rfl).sl.below (Below.drew (B_ (wr.heap.size+1) _)) (le_ _))
    have HBT:=H_ (bits64_and (endsK x) (endsK y) (by omega) (by omega))
    have hdz:wr.drew.heap.size=wr.heap.size:=rfl
    have hqb:q.length≤1000000:=by omega
    have hqc:(q.length:Int)≤sc:=by omega
    have j8:IntKind.i64.wrap (q.length:Int)=q.length:=wrap_i64_nat _ (by omega)
    have j9:IntKind.i64.wrap ((q.length:Int)+1)=(q.length:Int)+1:=by simpa using wrap_i64_nat (q.length+1) (by omega)
    have j7:(0:Int)≤q.length:=by omega
    have j6:(q.length:Int)<(q.length:Int)+1+1:=by omega
    have j5:(q.length:Int)+1<(q.length:Int)+1+1:=by omega
    have j4:(0:Int)≤(q.length:Int)+1:=by omega
    have j3:((q.length:Int)+1).toNat=q.length+1:=by omega
    have i1:((q.length:Int)+1+1)-2=q.length:=by omega
    have i2:((q.length:Int)+1+1)-1=q.length+1:=by omega
    have i3:(((q.length:Int)+1+1)-2).toNat=q.length:=by omega
    have i4:(((q.length:Int)+1+1)-1).toNat=q.length+1:=by omega
    clear hown hc3 hes
    go_upto_region 10 with (go_at_call 176;refine (isAct_any _ _).mono ?_;rintro e_ _ ⟨rfl,rfl⟩;rw [HIS.out])
    go_region_law (first
     | (refine step_app_sl (by rfl) _ _ 22 (by rfl) 3 (.int .i64 0) 1 8 Tryz.underlying22 info_int (by rfl) (by decide) (by decide) (by rfl) HFW.out (by rfl) HL.out (by intro u hu;simp [ints] at hu;subst hu;rfl) (by omega) (by omega) ?_;intro v5 w5 ho5 hout5;obtain ⟨a5,c5,rfl⟩:=Own.shape ho5;(have H5:=H_ (ends_two HR.out HRN.out HPU.out hgr he' HSL.out ho5 HBT.out hout5));clear ho5 hout5))
    all_goals (
     go_wp2
     go_roundw
     case rel=>exact ⟨k+1,st',by omega,by go_num,H5⟩
     case measure=>simp [intOf];omega)
   ·have HIS:=H_ (show isActB 20=false by decide)
    obtain ⟨r_,x,y,q,rfl,he'⟩:=hq
    have hex:=ends_le (HR.out.2.2.2.2 x (by simp))
    have hey:=ends_le (HR.out.2.2.2.2 y (by simp))
    have hown:=HR.out.1
    have HSL:=H_ hsl
    simp only [List.length_cons] at hown hn hsl
    obtain ⟨sa,sc,rfl,hc1,hc2,_,hc3⟩:=Own.open hown
    obtain ⟨g,rfl,hg1,hg2⟩:=hc3 (by omega)
    unfold maxLen at hc2
    have hes:endsS (y :: x :: q)=endsS q++[((endsK x:Nat):Int),((endsK y:Nat):Int)]:=by simp [endsS]
    rw [hes] at hown
    have hql:=endsS_len q
    have r1:wr.drew.cell? ⟨g,q.length,none⟩=some (.int .i64 ((endsK x:Nat):Int)):=by
     have h:=own_cell hown q.length (by rw [ints_length];simp;omega)
     simpa [ints,hql] using h
    have r2:wr.drew.cell? ⟨g,q.length+1,none⟩=some (.int .i64 ((endsK y:Nat):Int)):=by
     have h:=own_cell hown (q.length+1) (by rw [ints_length];simp;omega)
     simpa [ints,hql] using h
    have HF:=H_ (Own.front (m:=q.length) (ys:=ints (endsS q)) (ks:=ints [((endsK x:Nat):Int),((endsK y:Nat):Int)]) (by rw [←ints_append];exact hown) (by rw [ints_length,hql]) (by simp))
    have hbl:Below wr.heap.size wr (wr.alloc (.cells #[.int .i64 (bits .or .i64 ((endsK x:Nat):Int) ((endsK y:Nat):Int))] 3)).drew:=Below.drew (al_below _ _)
    have hblz:=hbl.size
    have HFW:=H_ (HF.out.below hbl (by omega))
    have HL:Hid (Sl 1 wr.heap.size (wr.heap.size+1) (wr.alloc (.cells #[.int .i64 (bits .or .i64 ((endsK x:Nat):Int) ((endsK y:Nat):Int))] 3)).drew (.slice (some ⟨wr.heap.size,0,none⟩) 1 1) 1 (ints [bits .or .i64 ((endsK x:Nat):Int) ((endsK y:Nat):Int)])):=H_ ((Own.lit 1 3 wr (ints [_]) 1 (by omega) rfl).sl.below (Below.drew (B_ (wr.heap.size+1) _)) (le_ _))
    have HBT:=H_ (bits64_or (endsK x) (endsK y) (by omega) (by omega))
    have hdz:wr.drew.heap.size=wr.heap.size:=rfl
    have hqb:q.length≤1000000:=by omega
    have hqc:(q.length:Int)≤sc:=by omega
    have j8:IntKind.i64.wrap (q.length:Int)=q.length:=wrap_i64_nat _ (by omega)
    have j9:IntKind.i64.wrap ((q.length:Int)+1)=(q.length:Int)+1:=by simpa using wrap_i64_nat (q.length+1) (by omega)
    have j7:(0:Int)≤q.length:=by omega
    have j6:(q.length:Int)<(q.length:Int)+1+1:=by omega
    have j5:(q.length:Int)+1<(q.length:Int)+1+1:=by omega
    have j4:(0:Int)≤(q.length:Int)+1:=by omega
    have j3:((q.length:Int)+1).toNat=q.length+1:=by omega
    have i1:((q.length:Int)+1+1)-2=q.length:=by omega
    have i2:((q.length:Int)+1+1)-1=q.length+1:=by omega
    have i3:(((q.length:Int)+1+1)-2).toNat=q.length:=by omega
    have i4:(((q.length:Int)+1+1)-1).toNat=q.length+1:=by omega
    clear hown hc3 hes
    go_upto_region 12 with (go_at_call 176;refine (isAct_any _ _).mono ?_;rintro e_ _ ⟨rfl,rfl⟩;rw [HIS.out])
    go_region_law (first
     | (refine step_app_sl (by rfl) _ _ 22 (by rfl) 3 (.int .i64 0) 1 8 Tryz.underlying22 info_int (by rfl) (by decide) (by decide) (by rfl) HFW.out (by rfl) HL.out (by intro u hu;simp [ints] at hu;subst hu;rfl) (by omega) (by omega) ?_;intro v5 w5 ho5 hout5;obtain ⟨a5,c5,rfl⟩:=Own.shape ho5;(have H5:=H_ (ends_two HR.out HRN.out HPU.out hgr he' HSL.out ho5 HBT.out hout5));clear ho5 hout5))
    all_goals (
     go_wp2
     go_roundw
     case rel=>exact ⟨k+1,st',by omega,by go_num,H5⟩
     case measure=>simp [intOf];omega)
   ·have HIS:=H_ (show isActB 21=false by decide)
    obtain ⟨x,q,rfl,he'⟩:=hq
    have hown:=HR.out.1
    simp only [List.length_cons] at hown hn hsl
    obtain ⟨sa,sc,rfl,hc1,hc2,_,hc3⟩:=Own.open hown
    obtain ⟨g,rfl,hg1,hg2⟩:=hc3 (by omega)
    unfold maxLen at hc2
    rw [endsS_cons] at hown
    have hql:=endsS_len q
    have r1:wr.cell? ⟨g,q.length,none⟩=some (.int .i64 ((endsK x:Nat):Int)):=by
     have h:=own_cell hown q.length (by rw [ints_length];simp;omega)
     simpa [ints,hql] using h
    have r2:=World.ownsRow.frozenAt hown.1 q.length
    have hqb:q.length≤1000000:=by omega
    have j8:IntKind.i64.wrap (q.length:Int)=q.length:=wrap_i64_nat _ (by omega)
    have i1:((q.length:Int)+1)-1=q.length:=by omega
    have i2:(((q.length:Int)+1)-1).toNat=q.length:=by omega
    have hst:=(World.ownsRow.stored hown.1 q.length (.int .i64 15)).1
    have H5:Hid (EndsTo w (wr.setCell ⟨g,q.length,none⟩ (.int .i64 15)) e (k+1) (.slice (some ⟨g,0,none⟩) (q.length+1) sc) st'):=by
     refine H_ (ends_step HR.out HRN.out HPU.out hgr (xs:=(ints (endsS q++[((endsK x:Nat):Int)])).set q.length (.int .i64 15)) ⟨hst,fun k hk=>?_⟩ ?_ ((Outside.refl _ _ _).setCell (p:=⟨g,q.length,none⟩) hg1 hg2 _) (by simp at hsl ⊢;omega))
     ·have:=hown.2 k hk
      have h2:(wr.setCell ⟨g,q.length,none⟩ (.int .i64 15)).heap.size=wr.heap.size:=by simp [World.setCell]
      omega
     ·rw [he',ints_append,ints_append,List.set_append_right _ _ (by rw [ints_length];omega)]
      simp [ints,hql]
    clear hown hst hc3
    go_wp2_with (go_at_call 176;refine (isAct_any _ _).mono ?_;rintro e_ _ ⟨rfl,rfl⟩;rw [HIS.out])
    go_roundw
    case rel=>exact ⟨k+1,st',by omega,by go_num,H5⟩
    case measure=>simp [intOf];omega
  ·obtain rfl:k=e.length:=by omega
   have hr:=HR.out.2.2.1
   rw [List.take_length,HT.out] at hr
   injection hr with hr
   subst hr
   have hown:=HR.out.1
   obtain ⟨sa,sc,rfl,hc1,hc2,_,hc3⟩:=Own.open hown
   obtain ⟨g,rfl,_,_⟩:=hc3 (by simp)
   have r1:wr.cell? ⟨g,0,none⟩=some (.int .i64 ((endsK t:Nat):Int)):=own_cell hown 0 (by simp [ints,endsS])
   have HB:=H_ HR.out.2.1
   clear hown hc3
   go_wp2
   go_ret
   exact ⟨rfl,HB.out⟩
theorem behind_any (lo hi lo' hi':Nat) (va vb:Value) (xs ys:List Int) (w:World) (hx:SlI lo hi w va xs) (hy:SlI lo' hi' w vb ys) (hh:hi≤w.heap.size) (hh':hi'≤w.heap.size) (hm:xs.length+ys.length≤1000000) :
  Calls Tryz.prog 233 #[va,vb] w (RetV fun v w'=>Below w.heap.size w w'∧OwnI w.heap.size w'.heap.size 3 w' v (behV xs ys)):=by
 have HX:=H_ hx
 have HY:=H_ hy
 obtain ⟨a,cap,rfl,hcap,hcm,hc⟩:=hx.open
 obtain ⟨a2,cap2,rfl,hcap2,hcm2⟩:=Sl.shape hy
 clear hx hy
 by_cases h15:xs=[15]
 ·subst h15
  obtain ⟨b,off,rfl,_,_,_,h⟩:=hc 0 (by simp)
  have h0:w.cell? ⟨b,off,none⟩=some (.int .i64 15):=by simpa using h
  clear h hc
  go_enter Tryz.func233,Tryz.ntmps233
  go_wp2_with fail
  refine (cloneI_any _ _ _ ys _ HY.out (by omega)).mono ?_
  rintro e w1 ⟨v1,rfl,hb,ho⟩
  have HQ:=H_ (And.intro hb ho)
  obtain ⟨oa,oc,rfl⟩:=Own.shape ho
  clear hb ho
  go_wp2
  go_ret
  exact RetV.mk _ rfl ⟨HQ.out.1,by rw [show behV [15] ys=ys from if_pos rfl];exact HQ.out.2⟩
 ·have HV:=H_ (show behV xs ys=xs++ys++[19] from if_neg h15)
  have hcase:(∃ (x:Int) (b off:Nat),xs=[x]∧x≠15∧a=some ⟨b,off,none⟩∧w.cell? ⟨b,off,none⟩=some (.int .i64 x))∨xs.length≠1:=by
   by_cases hl:xs.length=1
   ·left
    obtain ⟨x,rfl⟩:∃ x,xs=[x]:=List.length_eq_one_iff.1 hl
    obtain ⟨b,off,e,_,_,_,h⟩:=hc 0 (by simp)
    exact ⟨x,b,off,rfl,fun e=>h15 (by rw [e]),e,by simpa using h⟩
   ·exact .inr hl
  clear hc h15
  rcases hcase with ⟨x,b,off,rfl,hne,rfl,h0⟩|hl
  ·have hx5:(x==15)=false:=by simpa using hne
   have HX1:Hid (SlI lo hi w (.slice (some ⟨b,off,none⟩) 1 cap) [x]):=HX
   go_enter Tryz.func233,Tryz.ntmps233
   go_wp2_with fail
   refine (cloneI_any _ _ _ [x] _ HX1.out (by omega)).mono ?_
   rintro e w1 ⟨v1,rfl,hb,ho⟩
   have hs1:=hb.size
   have HB:=H_ hb
   have HO:=H_ ho
   obtain ⟨oa,oc,rfl⟩:=Own.shape ho
   replace HY:=H_ (HY.out.below hb hh')
   clear hb ho
   go_wp2_with (at_builtin;refine wpList_app_sl rfl _ _ 22 rfl 3 (.int .i64 0) 1 8 Tryz.underlying22 info_int rfl (by decide) (by decide) rfl HO.out rfl HY.out (ints_one _) ?c1 ?c2 ?_)
   case c1=>omega
   case c2=>omega
   intro v2 w2 ho2 _ hout2 _
   have hs2:=hout2.size
   have O2:=H_ ho2
   have HB2:=H_ (Below.outside HB.out hout2 (le_ _) HB.out.size)
   clear ho2 hout2 HY HO HB
   go_wp2_with (at_builtin;refine wpList_app_lit w2 rfl _ _ 22 rfl 3 (.int .i64 0) 1 8 Tryz.underlying22 info_int rfl (by decide) (by decide) rfl O2.out 1 (ints [19]) rfl rfl (ints_one _) rfl ?c1 ?c2 ?_)
   case c1=>omega
   case c2=>omega
   intro v3 w3 ho3 hout3 _
   have O3:=H_ ho3
   have HB3:=H_ (Below.outside HB2.out hout3 (le_ _) HB2.out.size)
   clear ho3 hout3 O2 HB2
   go_wp2
   go_ret
   refine RetV.mk _ rfl ⟨HB3.out,?_⟩
   have h:=O3.out
   rw [HV.out]
   have e1:([x]++ys++[(19:Int)]).length=1+ys.length+1:=by simp;omega
   have e2:ints ([x]++ys++[(19:Int)])=ints [x]++ints ys++ints [19]:=by simp [ints]
   unfold OwnI
   rw [e1,e2]
   first | exact h | (rw [List.append_assoc];exact h)
  ·have hl1:((xs.length:Int)==1)=false:=by simp;omega
   have hl2:¬(xs.length:Int)=1:=by omega
   go_enter Tryz.func233,Tryz.ntmps233
   go_wp2_with fail
   refine (cloneI_any _ _ _ xs _ HX.out (by omega)).mono ?_
   rintro e w1 ⟨v1,rfl,hb,ho⟩
   have hs1:=hb.size
   have HB:=H_ hb
   have HO:=H_ ho
   obtain ⟨oa,oc,rfl⟩:=Own.shape ho
   replace HY:=H_ (HY.out.below hb hh')
   clear hb ho
   go_wp2_with (at_builtin;refine wpList_app_sl rfl _ _ 22 rfl 3 (.int .i64 0) 1 8 Tryz.underlying22 info_int rfl (by decide) (by decide) rfl HO.out rfl HY.out (ints_one _) ?c1 ?c2 ?_)
   case c1=>omega
   case c2=>omega
   intro v2 w2 ho2 _ hout2 _
   have hs2:=hout2.size
   have O2:=H_ ho2
   have HB2:=H_ (Below.outside HB.out hout2 (le_ _) HB.out.size)
   clear ho2 hout2 HY HO HB
   go_wp2_with (at_builtin;refine wpList_app_lit w2 rfl _ _ 22 rfl 3 (.int .i64 0) 1 8 Tryz.underlying22 info_int rfl (by decide) (by decide) rfl O2.out 1 (ints [19]) rfl rfl (ints_one _) rfl ?c1 ?c2 ?_)
   case c1=>omega
   case c2=>omega
   intro v3 w3 ho3 hout3 _
   have O3:=H_ ho3
   have HB3:=H_ (Below.outside HB2.out hout3 (le_ _) HB2.out.size)
   clear ho3 hout3 O2 HB2
   go_wp2
   go_ret
   refine RetV.mk _ rfl ⟨HB3.out,?_⟩
   have h:=O3.out
   rw [HV.out]
   have e1:(xs++ys++[(19:Int)]).length=xs.length+ys.length+1:=by simp;omega
   have e2:ints (xs++ys++[(19:Int)])=ints xs++ints ys++ints [19]:=by simp [ints]
   unfold OwnI
   rw [e1,e2]
   first | exact h | (rw [List.append_assoc];exact h)
def cmpI (x y:Int):Int:=if x<y then -1 else if y<x then 1 else 0
def cmpL:List Int→List Int→Int
 | [],[]=>0
 | [],_ :: _=>-1
 | _ :: _,[]=>1
 | x :: xs,y :: ys=>if cmpI x y=0 then cmpL xs ys else cmpI x y
theorem cmpI_bd (x y:Int):-1≤cmpI x y∧cmpI x y≤1:=by unfold cmpI;split<;>(try split)<;>omega
theorem cmpL_lt:∀ (xs ys:List Int),decide (cmpL xs ys<0)=ltL xs ys
 | [],[]=>rfl
 | [],_ :: _=>rfl
 | _ :: _,[]=>rfl
 | x :: xs,y :: ys=>by
  have ih:=cmpL_lt xs ys
  simp only [cmpL,ltL,cmpI]
  by_cases h1:x<y
  ·simp [h1]
  ·by_cases h2:y<x
   ·simp [h1,h2]
   ·simp [h1,h2,ih]
theorem cmpL_end1 {xs ys:List Int} {k:Nat} (h1:k<xs.length) (h2:ys.length≤k):cmpL (xs.drop k) (ys.drop k)=1:=by
 rw [List.drop_eq_getElem_cons h1,List.drop_eq_nil_of_le h2];rfl
theorem cmpL_end2 {xs ys:List Int} {k:Nat} (h1:xs.length≤k):cmpL (xs.drop k) (ys.drop k)=if k<ys.length then -1 else 0:=by
 rw [List.drop_eq_nil_of_le h1]
 split
 ·rename_i h
  rw [List.drop_eq_getElem_cons h];rfl
 ·rw [List.drop_eq_nil_of_le (by omega)];rfl
theorem cmpL_step {xs ys:List Int} {k:Nat} (h1:k<xs.length) (h2:k<ys.length):cmpL (xs.drop k) (ys.drop k)=if cmpI xs[k] ys[k]=0 then cmpL (xs.drop (k+1)) (ys.drop (k+1)) else cmpI xs[k] ys[k]:=by
 rw [List.drop_eq_getElem_cons h1,List.drop_eq_getElem_cons h2];rfl
theorem isNaN_any (x:Int) (w:World):Calls Tryz.prog 272 #[.int .i64 x] w fun e w'=>e=.returned (.bool false)∧w=w':=by
 have hx:(x !=x)=false:=by simp
 go_enter Tryz.func272,Tryz.ntmps272
 go_wp2
 go_ret
 exact ⟨rfl,rfl⟩
theorem cmpCompare_any (x y:Int) (w:World):Calls Tryz.prog 255 #[.int .i64 x,.int .i64 y] w fun e w'=>e=.returned (.int .i64 (cmpI x y))∧w=w':=by
 by_cases h1:x<y
 ·have HC:=H_ (show cmpI x y=-1 by simp [cmpI,h1])
  go_enter Tryz.func255,Tryz.ntmps255
  go_wp2_with (go_at_call 272;refine (isNaN_any _ _).mono ?_;rintro e w' ⟨rfl,rfl⟩)
  go_ret
  exact ⟨by rw [HC.out];rfl,rfl⟩
 ·by_cases h2:y<x
  ·have HC:=H_ (show cmpI x y=1 by simp [cmpI,h1,h2])
   go_enter Tryz.func255,Tryz.ntmps255
   go_wp2_with (go_at_call 272;refine (isNaN_any _ _).mono ?_;rintro e w' ⟨rfl,rfl⟩)
   go_ret
   exact ⟨by rw [HC.out];rfl,rfl⟩
  ·have HC:=H_ (show cmpI x y=0 by simp [cmpI,h1,h2])
   go_enter Tryz.func255,Tryz.ntmps255
   go_wp2_with (go_at_call 272;refine (isNaN_any _ _).mono ?_;rintro e w' ⟨rfl,rfl⟩)
   go_ret
   exact ⟨by rw [HC.out];rfl,rfl⟩
theorem compareI_any (lo hi lo' hi':Nat) (va vb:Value) (xs ys:List Int) (w:World) (hx:SlI lo hi w va xs) (hy:SlI lo' hi' w vb ys) :
  Calls Tryz.prog 247 #[va,vb] w fun e w'=>e=.returned (.int .i64 (cmpL xs ys))∧w=w':=by
 have HX:=H_ hx
 have HY:=H_ hy
 obtain ⟨a,cap,rfl,hcap,hcm⟩:=Sl.shape hx
 obtain ⟨a2,cap2,rfl,hcap2,hcm2⟩:=Sl.shape hy
 unfold maxLen at hcm hcm2
 clear hx hy
 go_enter Tryz.func247,Tryz.ntmps247
 go_wp2
 go_loopw [11] (fun i wr=>∃ k:Nat,k≤xs.length∧k≤ys.length∧i=.int .i64 k∧w=wr∧Hid (cmpL (xs.drop k) (ys.drop k)=cmpL xs ys)) (fun i _=>xs.length-(intOf i).toNat)
 case atStart=>exact ⟨0,by omega,by omega,rfl,rfl,H_ rfl⟩
 case round=>
  obtain ⟨k,hk,hk2,rfl,rfl,HQ⟩:=hrel
  by_cases hlt:k<xs.length
  ·obtain ⟨b,off,rfl,_,_,_,hc1⟩:=SlI.get HX.out k hlt
   by_cases hlt2:k<ys.length
   ·obtain ⟨b2,off2,rfl,_,_,_,hc2⟩:=SlI.get HY.out k hlt2
    have hge:¬(ys.length:Int)≤k:=by omega
    have hst:=cmpL_step hlt hlt2
    obtain ⟨x,hx⟩:∃ x,x=xs[k]:=⟨_,rfl⟩
    obtain ⟨y,hy⟩:∃ y,y=ys[k]:=⟨_,rfl⟩
    rw [←hx] at hc1 hst
    rw [←hy] at hc2 hst
    have hbd:=cmpI_bd x y
    obtain ⟨z,hz⟩:∃ z,cmpI x y=z:=⟨_,rfl⟩
    rw [hz] at hst hbd
    have HZ:=H_ hz
    by_cases h0:z=0
    ·have HN:=H_ (show cmpL (xs.drop (k+1)) (ys.drop (k+1))=cmpL xs ys by rw [←HQ.out,hst,if_pos h0])
     clear hst hx hy hz HQ
     subst h0
     go_wp2_with (go_at_call 255;refine (cmpCompare_any _ _ _).mono ?_;rintro e_ _ ⟨rfl,rfl⟩;rw [HZ.out])
     go_roundw
     case rel=>exact ⟨k+1,by omega,by omega,by go_num,by first | trivial | rfl,HN⟩
     case measure=>simp [intOf];omega
    ·have HN:=H_ (show z=cmpL xs ys by rw [←HQ.out,hst,if_neg h0])
     have hzb:(z==0)=false:=by simpa using h0
     clear hst hx hy hz HQ
     go_wp2_with (go_at_call 255;refine (cmpCompare_any _ _ _).mono ?_;rintro e_ _ ⟨rfl,rfl⟩;rw [HZ.out])
     go_ret
     exact ⟨by rw [←HN.out];rfl,rfl⟩
   ·have hge:(ys.length:Int)≤k:=by omega
    have HN:=H_ (show (1:Int)=cmpL xs ys by rw [←HQ.out,cmpL_end1 hlt (by omega)])
    clear HQ
    go_wp2
    go_ret
    exact ⟨by rw [←HN.out];rfl,rfl⟩
  ·obtain rfl:k=xs.length:=by omega
   have he:=cmpL_end2 (xs:=xs) (ys:=ys) (k:=xs.length) (le_ _)
   rw [HQ.out] at he
   by_cases hl:xs.length<ys.length
   ·rw [if_pos hl] at he
    have HN:=H_ he
    have hl2:(xs.length:Int)<ys.length:=by omega
    clear he HQ
    go_wp2
    go_ret
    exact ⟨by rw [←HN.out];rfl,rfl⟩
   ·rw [if_neg hl] at he
    have HN:=H_ he
    have hl2:¬(xs.length:Int)<ys.length:=by omega
    clear he HQ
    go_wp2
    go_ret
    exact ⟨by rw [←HN.out];rfl,rfl⟩
def LLs (lo hi:Nat) (w:World) (v:Value) (ss:List Value) (xss:List (List Int)):Prop:=
 Own 1 lo hi 22 w v ss.length ss∧ss.length=xss.length∧∀ i (h1:i<ss.length) (h2:i<xss.length),OwnI lo hi 3 w ss[i] xss[i]
theorem LLs.below {lo hi B:Nat} {w w':World} {v:Value} {ss:List Value} {xss:List (List Int)} (h:LLs lo hi w v ss xss) (hb:Below B w w') (hB:hi≤B):LLs lo hi w' v ss xss:=
 ⟨h.1.below hb hB,h.2.1,fun i h1 h2=>(h.2.2 i h1 h2).below hb hB⟩
theorem LLs.outside {lo hi lo' hi':Nat} {w w':World} {v:Value} {ss:List Value} {xss:List (List Int)} (h:LLs lo hi w v ss xss) (hb:Outside lo' hi' w w') (hd:hi≤lo'∨hi'≤lo):LLs lo hi w' v ss xss:=
 ⟨h.1.outside hb hd,h.2.1,fun i h1 h2=>(h.2.2 i h1 h2).outside hb hd⟩
theorem LLs.lower {lo lo' hi hi':Nat} {w:World} {v:Value} {ss:List Value} {xss:List (List Int)} (h:LLs lo hi w v ss xss) (hl:lo'≤lo) (hh:hi≤hi'):LLs lo' hi' w v ss xss:=
 ⟨h.1.wide2 hl hh,h.2.1,fun i h1 h2=>(h.2.2 i h1 h2).lower hl hh⟩
theorem LLs.nil (lo hi:Nat) (w:World):LLs lo hi w (.slice none 0 0) [] []:=⟨Own.nil _ _ _ _ _,rfl,fun i h=>by simp at h⟩
theorem row_kept {lo hi g:Nat} {w:World} {cur:Array Value} {u:Value} {ys:List Int} (hcur:w.heap[g]?=some (.cells cur 22 (0,0))) (hu:OwnI lo hi 3 w u ys) (j:Nat) (x:Value):OwnI lo hi 3 (w.setCell ⟨g,j,none⟩ x) u ys:=by
 rcases hu.1.2 with ⟨h1,h0⟩|⟨g',cap',cur',e1,hb,hg',hrest⟩
 ·exact ⟨⟨hu.1.1,.inl ⟨h1,h0⟩⟩,hu.2⟩
 ·refine ⟨⟨hu.1.1,.inr ⟨g',cap',cur',e1,hb,?_,hrest⟩⟩,hu.2⟩
  rw [heap_setCell_other w ⟨g,j,none⟩ g' _ (fun e=>by
   have e:g'=g:=by simpa using e
   subst e
   rw [hcur] at hg'
   injection hg' with hg'
   injection hg' with _ h2 _
   exact absurd h2 (by decide))]
  exact hg'
theorem LLs.put {lo hi n cap g:Nat} {w:World} {ss:List Value} {xss:List (List Int)} {s:Value} {ys:List Int} (h:LLs lo hi w (.slice (some ⟨g,0,none⟩) n cap) ss xss) (hn:n=ss.length) (hs:OwnI lo hi 3 w s ys) (j:Nat) :
  LLs lo hi (w.setCell ⟨g,j,none⟩ s) (.slice (some ⟨g,0,none⟩) n cap) (ss.set j s) (xss.set j ys)∧Outside lo hi w (w.setCell ⟨g,j,none⟩ s):=by
 subst hn
 obtain ⟨_,hg1,hg2,cur,hcur⟩:=Own.block (g:=0) h.1
 simp only at hg1 hg2 hcur
 refine ⟨⟨?_,by simpa using h.2.1,fun i h1 h2=>?_⟩,(Outside.refl _ _ _).setCell (p:=⟨g,j,none⟩) hg1 hg2 _⟩
 ·rw [List.length_set]
  exact ⟨(World.ownsRow.stored h.1.1 j s).1,h.1.2⟩
 ·rw [List.length_set] at h1 h2
  rw [List.getElem_set,List.getElem_set]
  split
  ·exact row_kept hcur hs j s
  ·exact row_kept hcur (h.2.2 i h1 h2) j s
theorem LLs.front {lo hi n cap g m:Nat} {w:World} {ss:List Value} {xss:List (List Int)} (h:LLs lo hi w (.slice (some ⟨g,0,none⟩) n cap) ss xss) (hn:n=ss.length) (hm:m≤ss.length):LLs lo hi w (.slice (some ⟨g,0,none⟩) m cap) (ss.take m) (xss.take m):=by
 subst hn
 have hl:(ss.take m).length=m:=by simp;omega
 refine ⟨?_,by have:=h.2.1;simp;omega,fun i h1 h2=>?_⟩
 ·rw [hl]
  exact Own.front (ys:=ss.take m) (ks:=ss.drop m) (by rw [List.take_append_drop];exact h.1) hl (by simp)
 ·rw [List.getElem_take,List.getElem_take]
  exact h.2.2 i (by simp at h1;omega) (by simp at h2;omega)
theorem LLs.cell {lo hi n cap g:Nat} {w:World} {ss:List Value} {xss:List (List Int)} (h:LLs lo hi w (.slice (some ⟨g,0,none⟩) n cap) ss xss) (j:Nat) (hj:j<ss.length):w.cell? ⟨g,j,none⟩=some ss[j]:=by
 have:=h.1.1.cells (g:=g) rfl j ss[j] (List.getElem?_eq_getElem hj)
 rwa [Addr.add_lit,Nat.zero_add] at this
theorem LLs.sl {lo hi:Nat} {w:World} {v:Value} {ss:List Value} {xss:List (List Int)} (h:LLs lo hi w v ss xss):SlLL lo hi w v xss:=by
 obtain ⟨a,cap,e,e1,e2,_,_,hc⟩:=h.1.sl
 have hl:=h.2.1
 refine ⟨a,cap,by rw [←hl];exact e,by omega,e2,fun i hi=>?_⟩
 obtain ⟨b,off,f1,f2,f3,f4,f5⟩:=hc i (by omega)
 exact ⟨b,off,ss[i],f1,f2,f3,f4,by rw [f5,List.getElem?_eq_getElem],(h.2.2 i (by omega) hi).sl⟩
def cmpFrom (p:List Int):List (List Int)→List (List Int)
 | []=>[]
 | x :: r=>if x=p then cmpFrom x r else x :: cmpFrom x r
def compA:List (List Int)→List (List Int)
 | []=>[]
 | x :: r=>x :: cmpFrom x r
theorem cmpFrom_mem {y:List Int}:∀ (l:List (List Int)) (p:List Int),y∈p :: cmpFrom p l↔y=p∨y∈l
 | [],p=>by simp [cmpFrom]
 | x :: r,p=>by
  have ih:=cmpFrom_mem (y:=y) r x
  simp only [List.mem_cons] at ih
  by_cases h:x=p
  ·subst h
   simp only [cmpFrom,if_pos]
   simp only [List.mem_cons,ih]
   constructor
   ·rintro (h|h)<;>simp [h]
   ·rintro (h|h|h)<;>simp [h]
  ·simp only [cmpFrom,if_neg h,List.mem_cons,ih]
theorem compA_mem {y:List Int} {l:List (List Int)}:y∈compA l↔y∈l:=by
 cases l with
 | nil=>simp [compA]
 | cons x r=>rw [compA,cmpFrom_mem,List.mem_cons]
def LeL (l:List (List Int)):Prop:=l.Pairwise fun x y=>ltL y x=false
theorem cmpFrom_sort:∀ (l:List (List Int)) (p:List Int),LeL (p :: l)→SortL (p :: cmpFrom p l)
 | [],p,_=>by simp [cmpFrom,SortL]
 | x :: r,p,h=>by
  have h1:=List.pairwise_cons.1 h
  have ih:=cmpFrom_sort r x h1.2
  by_cases e:x=p
  ·subst e
   simpa [cmpFrom] using ih
  ·simp only [cmpFrom,if_neg e]
   have hpx:ltL p x=true:=by
    cases hh:ltL p x with
    | true=>rfl
    | false=>exact absurd (ltL_tri (h1.1 x (by simp)) hh) e
   refine List.pairwise_cons.2 ⟨fun y hy=>?_,ih⟩
   rcases List.mem_cons.1 hy with rfl|hy
   ·exact hpx
   ·exact ltL_trans hpx ((List.pairwise_cons.1 ih).1 y hy)
theorem compA_ord {l m:List (List Int)} (h:LeL l) (hm:∀ x,x∈l↔x∈m):compA l=ordL m:=by
 refine ordL_of ?_ fun x=>by rw [compA_mem,hm]
 cases l with
 | nil=>exact sort_nil
 | cons x r=>exact cmpFrom_sort r x h
theorem take_set_le {α:Type} (l:List α) (k:Nat) (x:α):(l.set k x).take k=l.take k:=by
 apply List.ext_getElem?
 intro i
 rw [List.getElem?_take,List.getElem?_take]
 split
 ·rw [List.getElem?_set_ne (by omega)]
 ·rfl
theorem LLs.clear {lo hi n cap g:Nat}:∀ (m o:Nat) (w:World) (ss:List Value) (xss:List (List Int)),LLs lo hi w (.slice (some ⟨g,0,none⟩) n cap) ss xss→n=ss.length →
  ∃ ss' xss',LLs lo hi (w.setCells g o (List.replicate m (.slice none 0 0))) (.slice (some ⟨g,0,none⟩) n cap) ss' xss'∧ss'.length=ss.length∧xss'.take o=xss.take o∧Outside lo hi w (w.setCells g o (List.replicate m (.slice none 0 0)))
 | 0,o,w,ss,xss,h,hn=>⟨ss,xss,h,rfl,rfl,Outside.refl _ _ _⟩
 | m+1,o,w,ss,xss,h,hn=>by
  obtain ⟨h1,h2⟩:=h.put hn (s:=.slice none 0 0) (ys:=[]) (show OwnI lo hi 3 w (.slice none 0 0) [] from Own.nil _ _ _ _ _) o
  obtain ⟨ss',xss',k1,k2,k3,k4⟩:=LLs.clear m (o+1) _ _ _ h1 (by rw [List.length_set];exact hn)
  refine ⟨ss',xss',k1,by rw [k2,List.length_set],?_,h2.trans k4⟩
  have h4:=congrArg (List.take o) k3
  rw [List.take_take,List.take_take,Nat.min_eq_left (by omega)] at h4
  exact h4.trans (take_set_le _ _ _)
theorem compA_pre {l:List (List Int)}:∀ (k:Nat) (h1:1≤k) (hk:k≤l.length),(∀ j (h1:1≤j) (h:j<k),l[j]≠l[j-1])→compA l=l.take k++cmpFrom l[k-1] (l.drop k)
 | 0,h,_,_=>by omega
 | 1,_,hk,_=>by
  cases l with
  | nil=>simp at hk
  | cons x r=>simp [compA]
 | k+2,_,hk,h=>by
  have ih:=compA_pre (l:=l) (k+1) (by omega) (by omega) (fun j h1 h2=>h j h1 (by omega))
  have hne:=h (k+1) (by omega) (by omega)
  simp only [Nat.add_sub_cancel] at ih hne
  show compA l=List.take (k+1+1) l++cmpFrom l[k+1] (List.drop (k+1+1) l)
  rw [ih,List.drop_eq_getElem_cons (by omega:k+1<l.length),cmpFrom,if_neg hne,List.take_succ_eq_append_getElem (by omega:k+1<l.length),List.append_assoc]
  rfl
theorem cmpFrom_skip {l:List (List Int)} {q:Nat} (h:q<l.length) (p:List Int) (e:l[q]=p):cmpFrom p (l.drop q)=cmpFrom l[q] (l.drop (q+1)):=by
 rw [List.drop_eq_getElem_cons h,cmpFrom,if_pos e]
theorem cmpFrom_take {l:List (List Int)} {q:Nat} (h:q<l.length) (p:List Int) (e:l[q]≠p):cmpFrom p (l.drop q)=l[q] :: cmpFrom l[q] (l.drop (q+1)):=by
 rw [List.drop_eq_getElem_cons h,cmpFrom,if_neg e]
def CmpI (lo hi:Nat) (w wr:World) (g n cap:Nat) (ss:List Value) (xss:List (List Int)) (k q:Nat):Prop:=
 ∃ ss' xs',LLs lo hi wr (.slice (some ⟨g,0,none⟩) n cap) ss' xs'∧ss'.length=n∧Outside lo hi w wr∧(∀ i (h1:i<ss.length) (h2:i<xss.length),OwnI lo hi 3 wr ss[i] xss[i])∧(∀ p,q≤p+1→ss'[p]?=ss[p]?)∧∀ (hq:q-1<xss.length),xs'.take k++cmpFrom xss[q-1] (xss.drop q)=compA xss
theorem CmpI.skip {lo hi g n cap k q:Nat} {w wr w2:World} {ss:List Value} {xss:List (List Int)} (h:CmpI lo hi w wr g n cap ss xss k q) (hb:Below wr.heap.size wr w2) (hh:hi≤wr.heap.size) (hq:q<xss.length) (h1:1≤q) (e:xss[q]=xss[q-1]):CmpI lo hi w w2 g n cap ss xss k (q+1):=by
 obtain ⟨ss',xs',a1,a2,a3,a0,a4,a5⟩:=h
 refine ⟨ss',xs',a1.below hb hh,a2,a3.trans (Outside.of_below hb (le_ _)),fun i h1 h2=>(a0 i h1 h2).below hb hh,fun p hp=>a4 p (by omega),fun hq'=>?_⟩
 simp only [Nat.add_sub_cancel]
 rw [←a5 (by omega),cmpFrom_skip hq _ e]
theorem CmpI.keep {lo hi g n cap k q:Nat} {w wr w2:World} {ss:List Value} {xss:List (List Int)} (h:CmpI lo hi w wr g n cap ss xss k q) (hl:LLs lo hi w (.slice (some ⟨g,0,none⟩) n cap) ss xss) (hb:Below wr.heap.size wr w2) (hh:hi≤wr.heap.size) (hhw:hi≤w.heap.size) (hq:q<xss.length) (h1:k+1≤q) (hss:q<ss.length) (hn:n=ss.length) (e:xss[q]≠xss[q-1]) :
  CmpI lo hi w (w2.setCell ⟨g,k,none⟩ ss[q]) g n cap ss xss (k+1) (q+1):=by
 obtain ⟨ss',xs',a1,a2,a3,a0,a4,a5⟩:=h
 have hr:OwnI lo hi 3 w2 ss[q] xss[q]:=(a0 q hss hq).below hb hh
 have hb1:=(a1.below hb hh).1
 rw [a2] at hb1
 obtain ⟨_,hg1,hg2,cur,hcur⟩:=Own.block (g:=0) hb1
 obtain ⟨b1,b2⟩:=(a1.below hb hh).put (by omega) hr k
 refine ⟨_,_,b1,by rw [List.length_set];exact a2,(a3.trans (Outside.of_below hb (le_ _))).trans b2,fun i h1 h2=>row_kept hcur ((a0 i h1 h2).below hb hh) k _,fun p hp=>?_,fun hq'=>?_⟩
 ·rw [List.getElem?_set_ne (by omega)]
  exact a4 p (by omega)
 ·simp only [Nat.add_sub_cancel]
  have hx':k<xs'.length:=by have:=a1.2.1;omega
  rw [←a5 (by omega),cmpFrom_take hq _ e,List.take_succ_eq_append_getElem (by rw [List.length_set];exact hx'),take_set_le,List.getElem_set_self,List.append_assoc]
  rfl
theorem zero_ints (w:World):(zeroValue 22).run Tryz.prog w=.ok (.slice none 0 0) w:=by kernel_rfl
theorem compact_any (lo hi:Nat) (v:Value) (ss:List Value) (xss:List (List Int)) (w:World) (hx:LLs lo hi w v ss xss) (hh:hi≤w.heap.size) (hm:xss.length≤100000) :
  Calls Tryz.prog 248 #[v,.func (.func 71) #[] #[]] w (RetV fun v' w'=>∃ ss',LLs lo hi w' v' ss' (compA xss)∧Outside lo hi w w'):=by
 have HX:=H_ hx
 have hl:=hx.2.1
 obtain ⟨a,cap,rfl,hc1,hc2,_,hc3⟩:=Own.open hx.1
 unfold maxLen at hc2
 clear hx
 by_cases h2:ss.length<2
 ·have hlt:(ss.length:Int)<2:=by omega
  have HC:=H_ (show compA xss=xss by
   match xss,hl with
   | [],_=>rfl
   | [x],_=>rfl
   | _ :: _ :: _,hl=>simp at hl;omega)
  go_enter Tryz.func248,Tryz.ntmps248
  go_wp2
  go_ret
  exact RetV.mk _ rfl ⟨ss,by rw [HC.out];exact HX.out,Outside.refl _ _ _⟩
 ·obtain ⟨g,rfl,hg1,hg2⟩:=hc3 (by omega)
  have hlt:¬(ss.length:Int)<2:=by omega
  obtain ⟨n,hn⟩:∃ n,n=ss.length:=⟨_,rfl⟩
  have HN:=H_ hn
  rw [←hn] at hc1 hlt h2 hl
  have HX':Hid (LLs lo hi w (.slice (some ⟨g,0,none⟩) n cap) ss xss):=by rw [HN.out];exact HX
  have HLX:=H_ hl
  have hn6:n≤100000:=by omega
  simp only [←hn]
  clear HX hn hc3 hl
  go_enter Tryz.func248,Tryz.ntmps248
  go_wp2
  go_loopw [5] (fun i wr=>∃ k:Nat,1≤k∧k≤n∧i=.int .i64 k∧Hid (Below w.heap.size w wr∧∀ j (h1:1≤j) (h:j<k) (h2:j<xss.length),xss[j]≠xss[j-1])) (fun i _=>n-(intOf i).toNat)
  case atStart=>exact ⟨1,by omega,by omega,rfl,H_ ⟨B_ _ _,fun j h1 h=>by omega⟩⟩
  case round=>
   obtain ⟨k,hk1,hk,rfl,HQ⟩:=hrel
   obtain ⟨j,rfl⟩:∃ j,k=j+1:=⟨k-1,by omega⟩
   have hwsz:=HQ.out.1.size
   have HLr:=H_ (HX'.out.below HQ.out.1 hh)
   by_cases hlt2:j+1<n
   ·have hkx:j+1<xss.length:=by have:=HLX.out;omega
    have hks:j+1<ss.length:=by have:=HN.out;omega
    have d1:wr.drew.cell? ⟨g,j+1,none⟩=some ss[j+1]:=HLr.out.cell (j+1) hks
    have d0:wr.drew.cell? ⟨g,j,none⟩=some ss[j]:=HLr.out.cell j (by omega)
    have HE0:Hid (Calls Tryz.prog 71 #[ss[j+1],ss[j]] wr.drew fun e w'=>e=.returned (.bool (eqL xss[j+1] xss[j]))∧Below wr.heap.size wr w'):=
     H_ ((slEq_any _ _ _ _ _ _ _ _ wr.drew (HLr.out.2.2 (j+1) hks hkx).sl (HLr.out.2.2 j (by omega) (by omega)).sl).mono fun e w' h=>⟨h.1,(Below.drew (B_ wr.heap.size wr)).trans h.2⟩)
    obtain ⟨b,hb⟩:∃ b,eqL xss[j+1] xss[j]=b:=⟨_,rfl⟩
    have HEQ:=H_ hb
    rw [hb] at HE0
    obtain ⟨u1,hu1⟩:∃ u,u=ss[j+1]:=⟨_,rfl⟩
    obtain ⟨u0,hu0⟩:∃ u,u=ss[j]:=⟨_,rfl⟩
    rw [←hu1,←hu0] at HE0
    rw [←hu1] at d1
    rw [←hu0] at d0
    have j1:(j:Int)+1<n:=by omega
    have j2:(j:Int)<n:=by omega
    have j3:((j:Int)+1).toNat=j+1:=by omega
    have j4:(0:Int)≤(j:Int)+1:=by omega
    have j5:(0:Int)≤j:=by omega
    have j8:IntKind.i64.wrap (j:Int)=j:=wrap_i64_nat _ (by omega)
    clear hb hu1 hu0
    go_upto_region 6 with fail
    go_region_law (first
     | ((first | go_at_call 71 | (go_simp;go_at_call 71));refine HE0.out.mono ?_;rintro e2 w2 ⟨rfl,hb2⟩;(have HB2:=H_ hb2);clear hb2))
    all_goals (
     cases b
     ·have HN2:Hid (∀ i (h1:1≤i) (h:i<j+1+1) (h2:i<xss.length),xss[i]≠xss[i-1]):=H_ fun i h1 h h2=>by
       by_cases e:i=j+1
       ·subst e
        have h:=HEQ.out
        rw [eqL_iff] at h
        simpa using h
       ·exact HQ.out.2 i h1 (by omega) h2
      have HB3:=H_ (HQ.out.1.trans (HB2.out.mono hwsz))
      clear HQ HB2 HE0
      go_wp2
      go_roundw
      case rel=>exact ⟨j+1+1,by omega,by omega,by go_num,H_ ⟨HB3.out,HN2.out⟩⟩
      case measure=>simp [intOf];omega
     ·obtain ⟨r,q6⟩:∃ r,n-(j+1)=r:=⟨_,rfl⟩
      have hnr1:n≤j+1+r:=by omega
      have hnr2:j+1+r≤n:=by omega
      have hev:xss[j+1]=xss[j]:=by
       have h:=HEQ.out
       rw [eqL_iff] at h
       simpa using h
      have HC0:Hid (CmpI lo hi w w2 g n cap ss xss (j+1) (j+1+1)):=H_ (by
       have hb2:=HB2.out
       refine ⟨ss,xss,HLr.out.below hb2 (by omega),HN.out.symm,(Outside.of_below (HQ.out.1.trans (hb2.mono hwsz)) (le_ _)),fun i h1 h2=>(HLr.out.2.2 i h1 h2).below hb2 (by omega),fun p hp=>rfl,fun hq=>?_⟩
       have h:=compA_pre (l:=xss) (j+1) (by omega) (by omega) (fun i h1 h=>HQ.out.2 i h1 h (by omega))
       simp only [Nat.add_sub_cancel] at h ⊢
       rw [h,cmpFrom_skip hkx _ hev])
      have hs2:=HB2.out.size
      clear HQ HB2 HE0 HLr HEQ d0 d1 hev
      have q1:¬cap=j+1:=by omega
      have q2:(0:Int)≤r:=by omega
      have q7:(j:Int)+1≤n:=by omega
      have q3:(j:Int)+1≤cap:=by omega
      have q4:(n:Int)≤cap:=by omega
      have q5:j+1≤cap:=by omega
      go_wp2
      go_loopw [5,7] (fun i1 i2 wr=>∃ k m:Nat,j+1≤k∧k≤j+1+m∧m+1≤r∧i1=.int .i64 k∧i2=.int .i64 ((m+1:Nat):Int)∧w2.heap.size≤wr.heap.size∧Hid (CmpI lo hi w wr g n cap ss xss k (j+1+(m+1)))) (fun _ i _=>r-(intOf i).toNat)
      case atStart=>exact ⟨j+1,0,by omega,by omega,by omega,by first | rfl | go_num,by first | rfl | go_num,le_ _,HC0⟩
      case round=>
       clear HC0
       obtain ⟨k,m,hk1,hk2,hm3,rfl,rfl,hsr,HC⟩:=hrel
       obtain ⟨ss',xs',a1,a2,a3,a0,a4,a5⟩:=HC.out
       by_cases hlt3:m+1<r
       ·clear a5 a3
        have hq:j+1+(m+1)<xss.length:=by have:=HLX.out;omega
        have hqs:j+1+(m+1)<ss.length:=by have:=HN.out;omega
        have hr1:=a0 (j+1+(m+1)) hqs hq
        have hr0:=a0 (j+1+m) (by omega) (by omega)
        have d1:wr.drew.cell? ⟨g,j+1+(m+1),none⟩=some ss[j+1+(m+1)]:=by
         have h4:=a4 (j+1+(m+1)) (by omega)
         rw [List.getElem?_eq_getElem (by omega),List.getElem?_eq_getElem hqs] at h4
         injection h4 with h4
         exact (a1.cell (j+1+(m+1)) (by omega)).trans (by rw [h4])
        have d0:wr.drew.cell? ⟨g,j+1+m,none⟩=some ss[j+1+m]:=by
         have h4:=a4 (j+1+m) (by omega)
         rw [List.getElem?_eq_getElem (by omega),List.getElem?_eq_getElem (by omega:j+1+m<ss.length)] at h4
         injection h4 with h4
         exact (a1.cell (j+1+m) (by omega)).trans (by rw [h4])
        obtain ⟨b,hb⟩:∃ b,eqL xss[j+1+(m+1)] xss[j+1+m]=b:=⟨_,rfl⟩
        have HE0:Hid (Calls Tryz.prog 71 #[ss[j+1+(m+1)],ss[j+1+m]] wr.drew fun e w'=>e=.returned (.bool b)∧Below wr.heap.size wr w'):=
         H_ ((slEq_any _ _ _ _ _ _ _ _ wr.drew hr1.sl hr0.sl).mono fun e w' h=>⟨by rw [h.1,hb],(Below.drew (B_ wr.heap.size wr)).trans h.2⟩)
        have HEQ:=H_ hb
        have HA1:=H_ a1
        have HU:=H_ (show ss[j+1+(m+1)]=ss[j+1+(m+1)] from rfl)
        obtain ⟨ya,yc,hu⟩:=Own.shape hr1
        rw [hu] at d1 HE0
        have HU2:=H_ hu
        obtain ⟨u0,hu0⟩:∃ u,u=ss[j+1+m]:=⟨_,rfl⟩
        rw [←hu0] at d0 HE0
        have hyl:xss[j+1+(m+1)].length=xss[j+1+(m+1)].length:=rfl
        obtain ⟨yn,hyn⟩:∃ yn,yn=xss[j+1+(m+1)].length:=⟨_,rfl⟩
        rw [←hyn] at d1 HE0
        have HYN:=H_ hyn
        clear hu hu0 hyn hyl hb hr1 hr0 a0 a4 a1 HU
        have p1:(m:Int)+1<r:=by omega
        have p2:(m:Int)<r:=by omega
        have p3:((m:Int)+1).toNat=m+1:=by omega
        have p4:(0:Int)≤(m:Int)+1:=by omega
        have p5:(0:Int)≤m:=by omega
        have p6:(k:Int)<n:=by omega
        have p8:IntKind.i64.wrap (m:Int)=m:=wrap_i64_nat _ (by omega)
        go_upto_region 11 with fail
        go_region_law (first
         | ((first | go_at_call 71 | (go_simp;go_at_call 71));refine HE0.out.mono ?_;rintro e3 w3 ⟨rfl,hb3⟩;(have HB3:=H_ hb3);clear hb3))
        all_goals (
         have hs3:=HB3.out.size
         cases b
         ·have hne:xss[j+1+(m+1)]≠xss[j+1+m]:=by
           have h:=HEQ.out
           rw [eqL_iff] at h
           simpa using h
          have HA3:=H_ (HA1.out.below HB3.out (by omega))
          have f1:w3.cell? ⟨g,j+1+(m+1),none⟩=some (.slice ya yn yc):=(HB3.out.cell (p:=⟨g,j+1+(m+1),none⟩) (show g<wr.heap.size by omega)).trans d1
          have f2:=HA3.out.cell k (by omega)
          have f3:w3.frozen? ⟨g,k,none⟩=false:=by
           have h:=HA3.out.1
           rw [a2] at h
           exact World.ownsRow.frozenAt h.1 k
          have HK:=H_ (HC.out.keep HX'.out HB3.out (by omega) hh hq (by omega) hqs HN.out (by simpa using hne))
          have HK2:Hid (CmpI lo hi w (w3.setCell ⟨g,k,none⟩ (.slice ya yn yc)) g n cap ss xss (k+1) (j+1+(m+1)+1)):=by
           have h:=HK.out
           rw [HU2.out,←HYN.out] at h
           exact H_ h
          have hz4:(w3.setCell ⟨g,k,none⟩ (.slice ya yn yc)).heap.size=w3.heap.size:=by simp [World.setCell]
          have hz5:w2.heap.size≤(w3.setCell ⟨g,k,none⟩ (.slice ya yn yc)).heap.size:=by omega
          clear hne HK HC HA1 HE0 HEQ hz4
          go_wp2
          go_roundw
          case rel=>exact ⟨k+1,m+1,by omega,by omega,by omega,by go_num,by go_num,hz5,HK2⟩
          case measure=>simp [intOf];omega
         ·have hev:xss[j+1+(m+1)]=xss[j+1+m]:=by
           have h:=HEQ.out
           rw [eqL_iff] at h
           simpa using h
          have HK:=H_ (HC.out.skip HB3.out (by omega) hq (by omega) (by simpa using hev))
          clear hev HC HA1 HE0 HEQ
          go_wp2
          go_roundw
          case rel=>exact ⟨k,m+1,by omega,by omega,by omega,by go_num,by go_num,by omega,HK⟩
          case measure=>simp [intOf];omega)
       ·have hkn:k<n:=by omega
        have hcl:∀ ty,(Builtin.clear_ #[119] ty #[.slice (some ⟨g,k,none⟩) (n-k) (cap-k)]).run Tryz.prog wr=.ok (.tuple #[]) (wr.setCells g k (List.replicate (n-k) (.slice none 0 0))):=fun ty=>
         Lib.run_clear_slice wr _ _ ty _ Tryz.underlying119 zero_ints rfl rfl g k _ _ (by omega) (fun i hi=>by rw [a1.cell (k+i) (by omega)];rfl) (fun i hi=>by
          have h:=a1.1
          rw [a2] at h
          exact World.ownsRow.frozenAt h.1 (k+i))
        obtain ⟨ss2,xs2,b1,b2,b3,b4⟩:=LLs.clear (n-k) k wr ss' xs' a1 a2.symm
        obtain ⟨wz,hwz⟩:∃ wz,wz=wr.setCells g k (List.replicate (n-k) (.slice none 0 0)):=⟨_,rfl⟩
        have hR:=b1.front (m:=k) (by rw [b2,a2]) (by omega)
        have e5:=a5 (by have:=HLX.out;omega)
        rw [List.drop_eq_nil_of_le (by have:=HLX.out;omega),cmpFrom,List.append_nil] at e5
        rw [b3,e5] at hR
        rw [←hwz] at hR b4 hcl
        have HR:=H_ (And.intro hR (a3.trans b4))
        have p1:¬(m:Int)+1<r:=by omega
        have p2:(k:Int)≤n:=by omega
        have p3:(k:Int)≤cap:=by omega
        have p4:¬cap=k:=by omega
        have p5:(0:Int)≤k:=by omega
        have p7:k≤cap:=by omega
        clear hwz hR b1 b2 b3 b4 e5 a5 a4 a3 a0 a1 a2 HC
        go_wp2
        go_ret
        have hq:=HR.out
        exact RetV.mk _ rfl ⟨⟨_,hq.1⟩,hq.2⟩)
   ·obtain rfl:n=j+1:=by omega
    have HC:Hid (compA xss=xss):=H_ (by
     have h:=compA_pre (l:=xss) (j+1) (by omega) (by have:=HLX.out;omega) (fun i h1 h=>HQ.out.2 i h1 h (by have:=HLX.out;omega))
     rw [h]
     have e:xss.length=j+1:=HLX.out.symm
     rw [List.drop_eq_nil_of_le (by omega),List.take_of_length_le (by omega)]
     simp [cmpFrom])
    have HB3:=H_ (And.intro HLr.out (Outside.of_below HQ.out.1 (le_ _):Outside lo hi w wr))
    clear HQ
    go_wp2
    go_ret
    exact RetV.mk _ rfl ⟨ss,by rw [HC.out];exact HB3.out.1,HB3.out.2⟩
open Go.Shelf Go.Lib Go.Sort in
theorem swoL {lo hi:Nat} {w:World}:SWO (α:={p:Value × List Int // OwnI lo hi 3 w p.1 p.2}) (ltOf fun x y=>cmpL x.1.2 y.1.2) where
 irrefl x:=by simp only [ltOf,cmpL_lt];exact ltL_irr _
 trans x y z h1 h2:=by simp only [ltOf,cmpL_lt] at *;exact ltL_trans h1 h2
 ntrans x y z h1 h2:=by
  simp only [ltOf,cmpL_lt] at *
  cases h:ltL x.1.2 z.1.2 with
  | false=>rfl
  | true=>
   cases h3:ltL y.1.2 x.1.2 with
   | true=>rw [ltL_trans h3 h] at h2;cases h2
   | false=>rw [ltL_tri h1 h3] at h;rw [h] at h2;cases h2
section
open Go.Shelf Go.Lib Go.Sort
theorem sw_size {α:Type} [Inhabited α] (enc:α→Value) (w:World) (g off m:Nat) (d:Array α) (os:Array Obj):(sortWorld enc w g off m d os).heap.size=w.heap.size+os.size:=by
 simp [sortWorld,grow,putRow,mapBlock,Sort.ahead]
theorem sw_other {α:Type} [Inhabited α] (enc:α→Value) (w:World) (g off m:Nat) (d:Array α) (os:Array Obj) (k:Nat) (hk:k<w.heap.size) (hg:k≠g):(sortWorld enc w g off m d os).heap[k]?=w.heap[k]?:=by
 simp only [sortWorld,grow,putRow,mapBlock,Sort.ahead]
 rw [Array.getElem?_append_left (by simpa using hk),Array.getElem?_modify,if_neg (fun e=>hg e.symm)]
theorem sw_at {α:Type} [Inhabited α] (enc:α→Value) (w:World) (g m:Nat) (d:Array α) (os:Array Obj) {cur:Array Value} {e:TypeId} (h:w.heap[g]?=some (.cells cur e (0,0))):(sortWorld enc w g 0 m d os).heap[g]?=some (.cells (putCells enc 0 d cur) e (0,0)):=by
 have hk:=(Array.getElem?_eq_some_iff.1 h).1
 simp only [sortWorld,grow,putRow,mapBlock,Sort.ahead]
 rw [Array.getElem?_append_left (by simpa using hk),Array.getElem?_modify,if_pos rfl,h]
 rfl
theorem sw_out {α:Type} [Inhabited α] (enc:α→Value) (w:World) (g off m:Nat) (d:Array α) (os:Array Obj):Outside g (g+1) w (sortWorld enc w g off m d os):=
 ⟨rfl,rfl,rfl,by rw [sw_size];omega,fun k hk hd=>sw_other enc w g off m d os k hk (by omega)⟩
theorem put_take {α:Type} [Inhabited α] (enc:α→Value) (d:Array α) (cur:Array Value) (h:d.size≤cur.size):(putCells enc 0 d cur).toList.take d.size=d.toList.map enc:=by
 apply List.ext_getElem
 ·simp [putCells];omega
 ·intro i h1 h2
  simp at h2
  simp [putCells,h2]
end
section
open Go.Shelf Go.Lib Go.Sort
theorem row_sw {lo hi g off m:Nat} {α:Type} [Inhabited α] {enc:α→Value} {w:World} {cur:Array Value} {d:Array α} {os:Array Obj} {u:Value} {ys:List Int} (hcur:w.heap[g]?=some (.cells cur 22 (0,0))) (hu:OwnI lo hi 3 w u ys):OwnI lo hi 3 (sortWorld enc w g off m d os) u ys:=by
 rcases hu.1.2 with ⟨h1,h0⟩|⟨g',cap',cur',e1,hb,hg',hrest⟩
 ·exact ⟨⟨hu.1.1,.inl ⟨h1,h0⟩⟩,hu.2⟩
 ·refine ⟨⟨hu.1.1,.inr ⟨g',cap',cur',e1,hb,?_,hrest⟩⟩,hu.2⟩
  rw [sw_other enc w g off m d os g' (Array.getElem?_eq_some_iff.1 hg').1 (fun e=>by
   subst e
   rw [hcur] at hg'
   injection hg' with hg'
   injection hg' with _ h2 _
   exact absurd h2 (by decide))]
  exact hg'
theorem Outside.sub {lo hi g:Nat} {w w':World} (h:Outside g (g+1) w w') (h1:lo≤g) (h2:g<hi):Outside lo hi w w':=⟨h.os,h.tape,h.output,h.size,fun k hk hd=>h.block k hk (by omega)⟩
abbrev RowT (lo hi:Nat) (w:World):Type:={p:Value × List Int // OwnI lo hi 3 w p.1 p.2}
def rowNil (lo hi:Nat) (w:World):RowT lo hi w:=⟨(.slice none 0 0,[]),Own.nil _ _ _ _ _⟩
theorem sort_any (lo hi:Nat) (v:Value) (ss:List Value) (xss:List (List Int)) (w:World) (hx:LLs lo hi w v ss xss) (hh:hi≤w.heap.size) (hm:ss.length≤100000) :
  Calls Tryz.prog 246 #[v,.func (.func 247) #[] #[]] w fun e w'=>e=.returned (.tuple #[])∧∃ ss' xss',LLs lo hi w' v ss' xss'∧(∀ x,x∈xss'↔x∈xss)∧LeL xss'∧ss'.length=ss.length∧Outside lo hi w w':=by
 have hl:=hx.2.1
 rcases hx.1.1.2 with ⟨hv,h0⟩|⟨g,cap,cur,rfl,hg1,hcur,hnc,hcm,hcs,htk⟩
 ·subst hv
  have hss:ss=[]:=List.eq_nil_of_length_eq_zero h0
  subst hss
  have hxs:xss=[]:=List.eq_nil_of_length_eq_zero hl.symm
  subst hxs
  have hcon:=AnyF.slices_SortFunc_none (P:=Tryz.prog) (ρ:=Tryz.sortLL_ren) { Tryz.sortLL with } none 0 (.func (.func 247) #[] #[]) w
  change Calls Tryz.prog 246 _ _ _ at hcon
  refine hcon.mono ?_
  rintro e w' ⟨rfl,rfl⟩
  exact ⟨rfl,[],[],hx,fun _=>Iff.rfl,List.Pairwise.nil,rfl,Outside.refl _ _ _⟩
 ·have hg2:g<hi:=hx.1.2 g rfl
  letI:Inhabited (RowT lo hi w):=⟨rowNil lo hi w⟩
  let enc:RowT lo hi w→Value:=fun p=>p.1.1
  let cf:RowT lo hi w→RowT lo hi w→Int:=fun x y=>cmpL x.1.2 y.1.2
  have h1:OneCell enc:=fun x=>by
   obtain ⟨a,c,e⟩:=Own.shape x.2
   show x.1.1.oneCell'=true
   rw [e];rfl
  let d:Array (RowT lo hi w):=Array.ofFn fun i:Fin ss.length=>⟨(ss[i.val],xss[i.val]'(by omega)),hx.2.2 i.val i.isLt (by omega)⟩
  have hd:d.size=ss.length:=by simp [d]
  have hdj:∀ j (h:j<ss.length),(d[j]!).1=(ss[j],xss[j]'(by omega)):=fun j h=>by
   rw [getElem!_pos d j (by omega)]
   simp [d]
  have hH:Holds enc w g 0 d:=fun j hj=>by
   rw [hd] at hj
   have:=hdj j hj
   refine ⟨?_,by simp [World.frozen?,hcur]⟩
   show w.cell? ⟨g,0+j,none⟩=some (d[j]!).1.1
   rw [this,Nat.zero_add]
   exact hx.cell j hj
  have hcmp:CmpReads Tryz.prog 247 #[] enc cf g 0 d.size w:=fun m os dk hk x y=>by
   refine (compareI_any _ _ _ _ x.1.1 y.1.1 x.1.2 y.1.2 _ (row_sw hcur x.2).sl (row_sw hcur y.2).sl).mono ?_
   rintro e w' ⟨rfl,rfl⟩
   exact ⟨rfl,0,rfl⟩
  have eg:∀ args w,(callFunc 247 args).run Tryz.prog w=.ok (.enter 247 args) w:=enters_of Tryz.func247 (by kernel_rfl) rfl
  have hcon:=Any.slices_SortFunc Tryz.sortLL enc h1 cf swoL 247 #[] g 0 cap d w eg hcmp.lays hH (Array.getElem?_eq_some_iff.1 hcur).1 (by omega)
  change Calls Tryz.prog 246 _ _ _ at hcon
  rw [hd] at hcon
  refine hcon.mono ?_
  rintro e w' ⟨rfl,d',m,os,hp,hs,rfl⟩
  have hds:d'.size=ss.length:=hp.1.trans hd
  have hperm:d'.toList.Perm d.toList:=by
   have h:=hp.2.2
   have e1:(d'.extract 0 ss.length).toList=d'.toList:=by rw [←hds];simp
   have e2:(d.extract 0 ss.length).toList=d.toList:=by rw [←hd];simp
   rw [e1,e2] at h
   exact h
  have hcurs:d'.size≤cur.size:=by rw [hds];omega
  refine ⟨rfl,d'.toList.map enc,d'.toList.map fun p=>p.1.2,⟨⟨⟨by simp [hds],.inr ⟨g,cap,putCells enc 0 d' cur,by simp [hds],hg1,sw_at enc w g m d' os hcur,by simp [hds];exact hnc,hcm,by simp [putCells,hcs],?_⟩⟩,fun k hk=>?_⟩,by simp,fun i h1 h2=>?_⟩,fun x=>?_,?_,by simp [hds],(sw_out enc w g 0 m d' os).sub hg1 hg2⟩
  ·rw [Nat.mul_one]
   simpa using put_take enc d' cur hcurs
  ·exact hx.1.2 k (by simpa [Value.ownBlock] using hk)
  ·simp only [List.getElem_map]
   exact row_sw hcur (d'.toList[i]'(by simpa using h1)).2
  ·have hmap:(d.toList.map fun p=>p.1.2)=xss:=by
    apply List.ext_getElem
    ·simp [hd,hl]
    ·intro i h1 h2
     simp [d]
   rw [←hmap]
   exact (hperm.map _).mem_iff
  ·refine List.pairwise_iff_getElem.2 fun i j hi' hj hij=>?_
   simp only [List.length_map,Array.length_toList] at hi' hj
   have h:=hs i j (Nat.zero_le _) hij (by omega)
   rw [getElem!_pos d' j (by omega),getElem!_pos d' i (by omega)] at h
   simp only [ltOf,cf,cmpL_lt] at h
   simpa using h
end
theorem ordered_any (lo hi:Nat) (v:Value) (ss:List Value) (xss:List (List Int)) (w:World) (hx:LLs lo hi w v ss xss) (hh:hi≤w.heap.size) (hm:ss.length≤100000) :
  Calls Tryz.prog 234 #[v] w (RetV fun v' w'=>(∃ ss',LLs lo hi w' v' ss' (ordL xss))∧Outside lo hi w w'):=by
 have HX:=H_ hx
 obtain ⟨a,cap,rfl⟩:=Own.shape hx.1
 clear hx
 go_enter Tryz.func234,Tryz.ntmps234
 go_wp2_with fail
 refine (sort_any lo hi _ ss xss w HX.out hh hm).mono ?_
 rintro e w1 ⟨rfl,ss1,xs1,h1,hmem,hle,hlen,ho⟩
 have hl:=h1.2.1
 have hsz:=ho.size
 have H1:=H_ (And.intro h1 (And.intro (compA_ord hle hmem) ho))
 clear h1 hmem hle ho
 go_wp2_with fail
 refine (compact_any lo hi _ ss1 xs1 w1 H1.out.1 (by omega) (by omega)).mono ?_
 rintro e w2 ⟨v2,rfl,ss2,h2,ho2⟩
 have H2:=H_ (And.intro h2 ho2)
 obtain ⟨a2,cap2,rfl⟩:=Own.shape h2.1
 clear h2 ho2
 go_wp2
 go_ret
 exact RetV.mk _ rfl ⟨⟨ss2,by rw [←H1.out.2.1];exact H2.out.1⟩,H1.out.2.2.trans H2.out.2⟩
theorem LLs.push {lo hi hi':Nat} {w w':World} {v v' s:Value} {ss:List Value} {xss:List (List Int)} {ys:List Int} (h:LLs lo hi w v ss xss) (hg:w.grownBy w' v.ownBlock) (ho:Own 1 lo hi' 22 w' v' (ss.length+1) (ss++[s]))
  (hs:OwnI lo hi' 3 w s ys) (hh:hi≤hi'):LLs lo hi' w' v' (ss++[s]) (xss++[ys]):=by
 have kept:∀ {u:Value} {ys:List Int} {hj:Nat},OwnI lo hj 3 w u ys→OwnI lo hj 3 w' u ys:=by
  intro u ys hj hu
  refine ⟨hu.1.kept hg ?_,hu.2⟩
  cases hub:u.ownBlock with
  | none=>exact .inl rfl
  | some k=>
   right
   intro e
   rcases hu.1.2 with ⟨rfl,_⟩|⟨g',cap',cur',rfl,_,hg',_⟩
   ·cases hub
   ·rcases h.1.1.2 with ⟨rfl,_⟩|⟨gO,capO,curO,rfl,_,hgO,_⟩
    ·cases e
    ·simp only [Value.ownBlock,Option.some.injEq] at hub e
     rw [hub,e] at hg'
     rw [hg'] at hgO
     injection hgO with hgO
     injection hgO with _ h2 _
     exact absurd h2 (by decide)
 refine ⟨by rw [List.length_append];exact ho,by simp [h.2.1],fun i h1 h2=>?_⟩
 by_cases hi:i<ss.length
 ·rw [List.getElem_append_left hi,List.getElem_append_left (by have:=h.2.1;omega)]
  exact (kept (h.2.2 i hi (by have:=h.2.1;omega))).lower (le_ _) hh
 ·have e1:i=ss.length:=by simp at h1;omega
  have e2:i=xss.length:=by have:=h.2.1;omega
  rw [List.getElem_append_right (by omega),List.getElem_append_right (by omega)]
  simp only [e1,Nat.sub_self,List.getElem_cons_zero]
  have e3:ss.length-xss.length=0:=by omega
  simp only [e3,List.getElem_cons_zero]
  exact kept hs
theorem partsV_or_ord (a b:KT) (α:Nat) (c:Int):ordL (partsV a α c++partsV b α c)=partsV (.bin true a b) α c:=by
 refine (ordL_of (partsV_sort _ _ _) fun x=>?_).symm
 rw [partsV_or,addsL_mem,List.mem_append]
theorem partsV_seq_ord (a b:KT) (α:Nat) (c:Int):ordL ((partsV a α c).map (fun q=>behV q b.post)++if (endsK a).testBit α then partsV b α c else [])=partsV (.bin false a b) α c:=by
 refine (ordL_of (partsV_sort _ _ _) fun x=>?_).symm
 rw [partsV_seq,addsL_mem,List.mem_append,ordL_mem]
theorem partsV_star_ord (a:KT) (α:Nat) (c:Int):ordL ((partsV a α c).map fun q=>behV q (KT.star a).post)=partsV (.star a) α c:=by
 rw [partsV_star]
section
variable {P:Program} {w:World}
theorem step_app_any {ops:Array Oper} {o:Oper} {a:Act} {K:Act→World→Prop} {Q:Exit→Act→World→Prop} {E:Prop} (hgd:o.guard=none) (s x:Operand) (t:TypeId)
  (ho:o.op=.call { callee:=.builtin .append,args:=#[s,x],argTypes:=#[t,t] })
  (e:TypeId) (z:Value) (sz bytes:Nat) (ht:P.underlying t=some (.slice e)) (hinfo:(P.info? e).map (fun i=>(i.zero,i.size,i.bytes))=some (some z,sz,bytes))
  (hzs:z.cells.size=sz) (hsz:0<sz) (hby:bytes≤64)
  {lo hi lo' hi' n:Nat} {v:Value} {xs:List Value} (hs:a.eval s=v) (hown:Own sz lo hi e w v n xs)
  {vx:Value} {m:Nat} {ys:List Value} (hx:a.eval x=vx) (hsl:Sl sz lo' hi' w vx m ys) (h1:∀ u∈ys,u.oneCell'=true)
  (hn:n+m≤1073741824) (hlo:lo≤w.heap.size)
  (h:∀ v' w',Own sz lo w'.heap.size e w' v' (n+m) (xs++ys)→Outside lo hi w w'→w.grownBy w' v.ownBlock→K (a.put o.dst v') w') :
  if Region.wanted o (yielded ops a.tmps)=true then Oper.wp P o a w K Q else E:=by
 obtain ⟨ao,c,rfl,hmc,hcm,hlen,hnone,hc⟩:=hsl
 cases ao with
 | none=>
  have hw:Region.wanted o (yielded ops a.tmps)=true:=by simp [Region.wanted,hgd]
  rw [if_pos hw]
  obtain ⟨i,hi0,hz,hsize,hb⟩:=info_parts hinfo
  obtain rfl:=hnone rfl
  obtain rfl:m=0:=by omega
  obtain rfl:ys=[]:=List.eq_nil_of_length_eq_zero (by simpa using hlen)
  have hrun:=run_append_owned_none (P:=P) w lo t o.type e i sz ht hi0 _ n xs hown.1
  have hk:=h v w (by simpa using ⟨hown.1,fun g hg=>(hown.1.lt g hg).2⟩) (Outside.refl _ _ _) (World.grownBy.refl _ _)
  unfold Oper.wp
  simp [execOp,ho,resolve,invoke,builtin,hs,hx,hrun,Result.andThen]
  exact hk
 | some ad=>exact step_app_gr hgd s x t ho e z sz bytes ht hinfo hzs hsz hby hs hown hx ⟨some ad,c,rfl,hmc,hcm,hlen,hnone,hc⟩ h1 hn hlo h
end
theorem LLs.join {lo hi hi':Nat} {w w':World} {v v':Value} {ss us:List Value} {xss yss:List (List Int)} {n:Nat} (h:LLs lo hi w v ss xss) (hg:w.grownBy w' v.ownBlock) (ho:Own 1 lo hi' 22 w' v' n (ss++us)) (hn:n=ss.length+us.length)
  (hl:us.length=yss.length) (hs:∀ i (h1:i<us.length) (h2:i<yss.length),OwnI lo hi' 3 w us[i] yss[i]) (hh:hi≤hi'):LLs lo hi' w' v' (ss++us) (xss++yss):=by
 have kept:∀ {u:Value} {ys:List Int} {hj:Nat},OwnI lo hj 3 w u ys→OwnI lo hj 3 w' u ys:=by
  intro u ys hj hu
  refine ⟨hu.1.kept hg ?_,hu.2⟩
  cases hub:u.ownBlock with
  | none=>exact .inl rfl
  | some k=>
   right
   intro e
   rcases hu.1.2 with ⟨rfl,_⟩|⟨g',cap',cur',rfl,_,hg',_⟩
   ·cases hub
   ·rcases h.1.1.2 with ⟨rfl,_⟩|⟨gO,capO,curO,rfl,_,hgO,_⟩
    ·cases e
    ·simp only [Value.ownBlock,Option.some.injEq] at hub e
     rw [hub,e] at hg'
     rw [hg'] at hgO
     injection hgO with hgO
     injection hgO with _ h2 _
     exact absurd h2 (by decide)
 have h2':=h.2.1
 refine ⟨by rw [List.length_append,←hn];exact ho,by simp [h2',hl],fun i h1 h2=>?_⟩
 by_cases hi0:i<ss.length
 ·rw [List.getElem_append_left hi0,List.getElem_append_left (by omega)]
  exact (kept (h.2.2 i hi0 (by omega))).lower (le_ _) hh
 ·rw [List.getElem_append_right (by omega),List.getElem_append_right (by omega)]
  have e:i-ss.length=i-xss.length:=by omega
  have:=hs (i-ss.length) (by simp at h1;omega) (by simp at h1;omega)
  simp only [←e]
  exact kept this
theorem LLs.cellsOne {lo hi:Nat} {w:World} {v:Value} {ss:List Value} {xss:List (List Int)} (h:LLs lo hi w v ss xss):∀ u∈ss,u.oneCell'=true:=by
 intro u hu
 obtain ⟨i,hi,rfl⟩:=List.getElem_of_mem hu
 obtain ⟨a,c,e⟩:=Own.shape (h.2.2 i hi (by have:=h.2.1;omega))
 rw [e];rfl
def PartsC (t:KT):Prop:=∀ (lo:Nat) (ptr:Value) (w:World) (α:Nat) (c:Int),RT lo none w t ptr→t.ok 0=true→t.size≤2000→α<4→16≤c→c≤18→(∀ x∈partsV t α c,x.length≤100000) →
 Calls Tryz.prog 209 #[ptr,.int .i64 α,.int .i64 c] w (RetV fun v w'=>(∃ ss,LLs w.heap.size w'.heap.size w' v ss (partsV t α c))∧Below w.heap.size w w')
theorem parts_ord {w w1:World} {v:Value} {ss:List Value} {xss yss:List (List Int)} (h:LLs w.heap.size w1.heap.size w1 v ss xss) (hb:Below w.heap.size w w1) (hm:ss.length≤100000) (he:ordL xss=yss) :
  Calls Tryz.prog 234 #[v] w1 (RetV fun v' w'=>(∃ ss',LLs w.heap.size w'.heap.size w' v' ss' yss)∧Below w.heap.size w w'):=by
 refine (ordered_any _ _ v ss xss w1 h (le_ _) hm).mono ?_
 rintro e w2 ⟨v2,rfl,⟨ss2,h2⟩,ho⟩
 rw [he] at h2
 exact RetV.mk _ rfl ⟨⟨ss2,h2.lower (le_ _) ho.size⟩,Below.outside hb ho (le_ _) hb.size⟩
theorem parts_leaf (n:Int):PartsC (.leaf n):=by
 intro lo ptr w α c hp hok hsz hα hc1 hc2 hB
 clear hB
 obtain ⟨ps,⟨b,kv,rfl,_,_,hblk,a,cap,rfl,hpc,hcm,hkid⟩,hstk⟩:=hp.node
 have hb18:0≤n∧n≤18:=by simpa [KT.ok] using hok
 have k0:w.cell? ⟨b,0,none⟩=some (.int .i64 n):=hblk.cell 0
 have HN0:=H_ (LLs.nil w.heap.size w.heap.size w)
 clear hp hok hblk hkid hstk
 by_cases h16:16≤n
 ·have HIS:=H_ (show isActB n=true by simp [isActB,h16,hb18.2])
  by_cases hnc:n=c
  ·subst hnc
   have HPV:=H_ (show partsV (.leaf n) α n=[[15]] by simp [partsV])
   obtain ⟨w2,hw2⟩:∃ w2,w2=(w.alloc (.cells #[.int .i64 15] 3)).alloc (.cells #[.slice (some ⟨w.heap.size,0,none⟩) 1 1] 22):=⟨_,rfl⟩
   have hz1:(w.alloc (.cells #[.int .i64 15] 3)).heap.size=w.heap.size+1:=alloc_size _ _
   have hz2:w2.heap.size=w.heap.size+1+1:=by rw [hw2,alloc_size,hz1]
   have hb2:Below w.heap.size w w2:=by rw [hw2];exact ((B_ _ _).alloc (le_ _) _).alloc (by simp) _
   have hrow:OwnI w.heap.size w2.heap.size 3 w2 (.slice (some ⟨w.heap.size,0,none⟩) 1 1) [15]:=by
    rw [hw2]
    exact ((one_own' 15 w).alloc _).wide2 (le_ _) (by rw [←hw2];omega)
   have hsl:Sl 1 (w.heap.size+1) (w.heap.size+1+1) w2 (.slice (some ⟨w.heap.size+1,0,none⟩) 1 1) 1 [.slice (some ⟨w.heap.size,0,none⟩) 1 1]:=by
    have h:=(Own.lit 1 22 (w.alloc (.cells #[.int .i64 15] 3)) [.slice (some ⟨w.heap.size,0,none⟩) 1 1] 1 (by omega) rfl).sl
    rw [hz1] at h
    rw [hw2];exact h
   have HL:=H_ hsl
   have HR:=H_ hrow
   have HB2:=H_ hb2
   have HW2:=H_ hw2
   have H02:=H_ (LLs.below HN0.out hb2 (le_ _))
   clear hsl hrow hb2 hw2 hz1
   go_enter Tryz.func209,Tryz.ntmps209
   go_wp2_with (first
    | (go_at_call 176;refine (isAct_any _ _).mono ?_;rintro e_ _ ⟨rfl,rfl⟩;rw [HIS.out])
    | (at_builtin;go_loud (rw [←HW2.out];refine wpList_app_sl rfl _ _ 119 rfl 22 (.slice none 0 0) 1 24 Tryz.underlying119 info_ints rfl (by decide) (by decide) rfl H02.out.1 rfl HL.out (by intro u hu;simp only [List.mem_singleton] at hu;subst hu;rfl) ?c1 ?c2 ?_)))
   case c1=>simp
   case c2=>omega
   intro v5 w5 ho5 hg5 hout5 _
   have H5:=H_ (LLs.join (us:=[.slice (some ⟨w.heap.size,0,none⟩) 1 1]) (yss:=[[15]]) H02.out hg5 ho5 (by simp) rfl (fun i h1 h2=>by
    have:i=0:=by simpa using h1
    subst this
    exact HR.out.lower (le_ _) hout5.size) (by have:=hout5.size;omega))
   have HB5:=H_ (Below.outside HB2.out hout5 (le_ _) HB2.out.size)
   obtain ⟨a5,c5,rfl⟩:=Own.shape ho5
   clear ho5 hg5 hout5
   go_wp2_with fail
   refine (parts_ord (yss:=partsV (.leaf n) α n) H5.out HB5.out (by simp) (by rw [HPV.out];rfl)).mono ?_
   rintro e w6 ⟨v6,rfl,⟨ss6,h6⟩,hb6⟩
   have H6:=H_ (And.intro h6 hb6)
   obtain ⟨a6,c6,rfl⟩:=Own.shape h6.1
   clear h6 hb6
   go_wp2
   go_ret
   exact RetV.mk _ rfl ⟨⟨ss6,H6.out.1⟩,H6.out.2⟩
  ·have HPV:=H_ (show partsV (.leaf n) α c=[] by simp [partsV,hnc])
   have hncb:(n==c)=false:=by simpa using hnc
   go_enter Tryz.func209,Tryz.ntmps209
   go_wp2_with (go_at_call 176;refine (isAct_any _ _).mono ?_;rintro e_ _ ⟨rfl,rfl⟩;rw [HIS.out])
   refine (parts_ord (yss:=partsV (.leaf n) α c) HN0.out (B_ _ _) (by simp) (by rw [HPV.out];rfl)).mono ?_
   rintro e w6 ⟨v6,rfl,⟨ss6,h6⟩,hb6⟩
   have H6:=H_ (And.intro h6 hb6)
   obtain ⟨a6,c6,rfl⟩:=Own.shape h6.1
   clear h6 hb6
   go_wp2
   go_ret
   exact RetV.mk _ rfl ⟨⟨ss6,H6.out.1⟩,H6.out.2⟩
 ·have HIS:=H_ (show isActB n=false by simp [isActB];omega)
  have HPV:=H_ (show partsV (.leaf n) α c=[] by simp [partsV];omega)
  have n19:(n==19)=false:=by simp;omega
  have n20:(n==20)=false:=by simp;omega
  have n21:(n==21)=false:=by simp;omega
  go_enter Tryz.func209,Tryz.ntmps209
  go_wp2_with (go_at_call 176;refine (isAct_any _ _).mono ?_;rintro e_ _ ⟨rfl,rfl⟩;rw [HIS.out])
  refine (parts_ord (yss:=partsV (.leaf n) α c) HN0.out (B_ _ _) (by simp) (by rw [HPV.out];rfl)).mono ?_
  rintro e w6 ⟨v6,rfl,⟨ss6,h6⟩,hb6⟩
  have H6:=H_ (And.intro h6 hb6)
  obtain ⟨a6,c6,rfl⟩:=Own.shape h6.1
  clear h6 hb6
  go_wp2
  go_ret
  exact RetV.mk _ rfl ⟨⟨ss6,H6.out.1⟩,H6.out.2⟩
theorem parts_or {a' b':KT} (iha:PartsC a') (ihb:PartsC b'):PartsC (.bin true a' b'):=by
 intro lo ptr w α c hp hok hsz hα hc1 hc2 hB
 obtain ⟨ps,⟨b,kv,rfl,_,_,hblk,a,cap,rfl,hpc,hcm,hkid⟩,hstk⟩:=hp.node
 have hpl:=hstk.length
 simp only [KT.kids,List.length_cons,List.length_nil] at hpl
 obtain ⟨u0,u1,rfl⟩:∃ u0 u1,ps=[u0,u1]:=by
  match ps,hpl with
  | [x,y],_=>exact ⟨x,y,rfl⟩
 obtain ⟨gk,ok,rfl,_,_,hgk,kc0⟩:=hkid 0 (by simp)
 obtain ⟨gk',ok',e1,_,_,_,kc1⟩:=hkid 1 (by simp)
 injection e1 with e1
 injection e1 with e1 e2
 subst e1 e2
 simp only [KT.size] at hsz
 have hok2:a'.ok 0=true∧b'.ok 0=true:=by simpa [KT.ok] using hok
 have HSTK:=H_ hstk
 have HIHa:Hid (∀ w',Below w.heap.size w w'→Calls Tryz.prog 209 #[u0,.int .i64 α,.int .i64 c] w' (RetV fun v w2=>(∃ ss,LLs w'.heap.size w2.heap.size w2 v ss (partsV a' α c))∧Below w'.heap.size w' w2)):=H_ fun w' hb=>iha lo u0 w' α c (RT.below HSTK.out.1 hb) hok2.1 (by omega) hα hc1 hc2 (fun x hx=>hB x (by rw [←partsV_or_ord,ordL_mem,List.mem_append];exact .inl hx))
 have HIHb:Hid (∀ w',Below w.heap.size w w'→Calls Tryz.prog 209 #[u1,.int .i64 α,.int .i64 c] w' (RetV fun v w2=>(∃ ss,LLs w'.heap.size w2.heap.size w2 v ss (partsV b' α c))∧Below w'.heap.size w' w2)):=H_ fun w' hb=>ihb lo u1 w' α c (RT.below HSTK.out.2.1 hb) hok2.2 (by omega) hα hc1 hc2 (fun x hx=>hB x (by rw [←partsV_or_ord,ordL_mem,List.mem_append];exact .inr hx))
 have HGS:Hid (∀ w':World,Below w.heap.size w w'→w'.cell? ⟨b,0,none⟩=some (.int .i64 20)∧w'.cell? ⟨b,1,none⟩=some (.slice (some ⟨gk,ok,none⟩) 2 cap)∧w'.cell? ⟨gk,ok,none⟩=some u0∧w'.cell? ⟨gk,ok+1,none⟩=some u1):=H_ fun w' hb=>⟨(hblk.below hb hblk.lt).cell 0,(hblk.below hb hblk.lt).cell 1,(hb.cell (p:=⟨gk,ok+0,none⟩) hgk).trans kc0,(hb.cell (p:=⟨gk,ok+1,none⟩) hgk).trans kc1⟩
 have hla:=partsV_len hok2.1 (α:=α) hc1
 have hlb:=partsV_len hok2.2 (α:=α) hc1
 have HPV:=H_ (partsV_or_ord a' b' α c)
 have HIS:=H_ (show isActB 20=false by decide)
 have S0:=HGS.out w (B_ _ _)
 have SD:=HGS.out w.drew (Below.drew (B_ _ _))
 have hdz:w.drew.heap.size=w.heap.size:=rfl
 clear hB hp hok hblk hkid hstk hpl hcm hpc kc0 kc1
 obtain ⟨pa,hpa⟩:∃ x,x=partsV a' α c:=⟨_,rfl⟩
 obtain ⟨pb,hpb⟩:∃ x,x=partsV b' α c:=⟨_,rfl⟩
 rw [←hpa] at HIHa HPV hla
 rw [←hpb] at HIHb HPV hlb
 clear hpa hpb
 go_enter Tryz.func209,Tryz.ntmps209
 go_upto_region 6 with (go_at_call 176;refine (isAct_any _ _).mono ?_;rintro e_ _ ⟨rfl,rfl⟩;rw [HIS.out])
 go_region_held3 (fun w'=>w'.cell? ⟨b,0,none⟩=some (.int .i64 20)∧w'.cell? ⟨b,1,none⟩=some (.slice (some ⟨gk,ok,none⟩) 2 cap)∧w'.cell? ⟨gk,ok,none⟩=some u0∧w'.cell? ⟨gk,ok+1,none⟩=some u1) (first | with_reducible assumption | go_keep) (first
  | (go_at_call_of 209 u0;refine (HIHa.out w.drew (Below.drew (B_ _ _))).mono ?_;rintro e1 w1 ⟨v1,rfl,⟨ss1,h1_⟩,hb1_⟩;(have hz1:=hb1_.size);(have hb1:Below w.heap.size w w1:=(Below.drew (B_ _ _)).trans (hb1_.mono (le_ _)));(have S1:=HGS.out _ hb1);obtain ⟨x1a,x1c,rfl⟩:=Own.shape h1_.1;(have L1:=H_ h1_);(have HB1:=H_ hb1);clear h1_ hb1_ hb1)
  | (go_at_call_of 209 u1;refine (HIHb.out w1 HB1.out).mono ?_;rintro e2 w2 ⟨v2,rfl,⟨ss2,h2_⟩,hb2_⟩;(have hz2:=hb2_.size);(have hb2:Below w.heap.size w w2:=HB1.out.trans (hb2_.mono (by omega)));(have S2:=HGS.out _ hb2);obtain ⟨x2a,x2c,rfl⟩:=Own.shape h2_.1;(have L1':=H_ (L1.out.below hb2_ (le_ _)));(have L2:=H_ h2_);(have HB2:=H_ hb2);clear h2_ hb2_ hb2)
  | ((have g_:=L2);refine step_app_any (by rfl) _ _ 119 (by rfl) 22 (.slice none 0 0) 1 24 Tryz.underlying119 info_ints (by rfl) (by decide) (by decide) (by rfl) L1'.out.1 (by rfl) L2.out.1.sl L2.out.cellsOne (by have k1:=L1'.out.2.1;have k2:=L2.out.2.1;omega) (by omega) ?_;intro v3 w3 ho3 hout3 hg3;(have hz3:=hout3.size);(have S3:=HGS.out w3 (Below.outside HB2.out hout3 (by omega) (by omega)));(have H3:=H_ (LLs.join L1'.out hg3 ho3 rfl L2.out.2.1 (fun i h1 h2=>(L2.out.2.2 i h1 h2).lower (by omega) hz3) (by omega)));(have HB3:=H_ (Below.outside HB2.out hout3 (by omega) (by omega)));obtain ⟨x3a,x3c,rfl⟩:=Own.shape ho3;clear ho3 hout3 hg3 g_))
 go_wp2_with fail
 refine (parts_ord (w:=w) (yss:=partsV (.bin true a' b') α c) (H3.out.lower (by omega) (le_ _)) HB3.out (by have k1:=L1'.out.2.1;have k2:=L2.out.2.1;simp;omega) HPV.out).mono ?_
 rintro e w6 ⟨v6,rfl,⟨ss6,h6⟩,hb6⟩
 have H6:=H_ (And.intro h6 hb6)
 obtain ⟨a6,c6,rfl⟩:=Own.shape h6.1
 clear h6 hb6
 go_wp2
 go_ret
 exact RetV.mk _ rfl ⟨⟨ss6,H6.out.1⟩,H6.out.2⟩
def StepsL (t:KT):Prop:=∀ (lo:Nat) (p:Value) (w:World),RT lo none w t p→t.size≤100000 →
 Calls Tryz.prog 195 #[p] w (RetV fun v w'=>Below w.heap.size w w'∧OwnI w.heap.size w'.heap.size 3 w' v t.post)
theorem stepsL_node (t:KT) (ih:∀ k∈t.kids,StepsL k):StepsL t:=by
 intro lo p w hp hsz
 obtain ⟨ps,⟨b,kv,rfl,_,_,hblk,a,cap,rfl,hpc,hcm,hkid⟩,hstk⟩:=hp.node
 have hpl:=hstk.length
 have HS:=H_ hstk
 have HIH:=H_ ih
 have HKD:=H_ hkid
 have hkl:=t.kids_len
 have HKP:=H_ (postsK_le t)
 have c0:=hblk.cell 0
 have c1:=hblk.cell 1
 have hbs:=hblk.lt
 have HP:Hid (t.post=postsK t.kids t.kids.length++[t.root]):=H_ (post_postsK t)
 have HSZ:=H_ (fun k (h:k∈t.kids)=>Nat.le_trans (Nat.le_of_lt (KT.kids_size h)) hsz)
 obtain ⟨ks,hks⟩:∃ ks,ks=t.kids:=⟨_,rfl⟩
 rw [←hks] at HS HIH HKP HP hpl hkl HSZ
 clear hp hstk ih hkid hks
 unfold maxLen at hcm
 rw [hpl] at hpc c1
 go_enter Tryz.func195,Tryz.ntmps195
 go_wp2
 go_loopw [3,11] (fun v i wr=>∃ (k:Nat),k≤ks.length∧i=.int .i64 k∧Hid (OwnI w.heap.size wr.heap.size 3 wr v (postsK ks k)∧Below w.heap.size w wr)) (fun _ i _=>ks.length-(intOf i).toNat)
 case atStart=>exact ⟨0,by omega,rfl,H_ ⟨by rw [postsK_zero];exact Own.nil _ _ _ _ _,B_ _ _⟩⟩
 case round=>
  obtain ⟨k,hk,rfl,HR⟩:=hrel
  obtain ⟨va,vc,rfl,hvc,hvm,_⟩:=Own.open HR.out.1
  have hb:=HR.out.2
  by_cases hlt:k<ks.length
  ·have hkp:k<ps.length:=by omega
   obtain ⟨g,off,rfl,hg1,_,hg2,hg3⟩:=HKD.out k hkp
   obtain ⟨q,hq⟩:∃ q,q=ps[k]:=⟨_,rfl⟩
   rw [←hq] at hg3
   have hck:wr.cell? ⟨g,off+k,none⟩=some q:=by rw [hb.cell (p:=⟨g,off+k,none⟩) hg2];exact hg3
   have hRT:=(HS.out.get k hkp hlt).below hb
   rw [←hq] at hRT
   obtain ⟨qa,rfl⟩:=hRT.isPtr
   have HC:=H_ (HIH.out ks[k] (List.getElem_mem hlt) lo _ wr hRT (HSZ.out _ (List.getElem_mem hlt)))
   have HN:=H_ (postsK_next ks k hlt)
   have HL:=H_ (HKP.out (k+1))
   have HB:=H_ hb
   have HO:=H_ HR.out.1
   clear hg3 hRT hb HR hq
   go_wp2_with fail
   refine HC.out.mono ?_
   rintro e w1 ⟨v1,rfl,hb1,ho1⟩
   have H1:=H_ ho1
   replace HO:=H_ (HO.out.below hb1 (le_ _))
   replace HB:=H_ (HB.out.trans (hb1.mono HB.out.size))
   have hs1:=hb1.size
   obtain ⟨xa,xc,rfl,_⟩:=Own.open ho1
   have hlen:=HL.out
   rw [HN.out,List.length_append] at hlen
   clear hb1 ho1 HC
   go_wp2_with (at_builtin;go_loud (refine wpList_app_sl rfl _ _ 22 rfl 3 (.int .i64 0) 1 8 Tryz.underlying22 info_int rfl (by decide) (by decide) rfl HO.out rfl H1.out.sl (ints_one _) ?c1 ?c2 ?_))
   case c1=>omega
   case c2=>have:=HB.out.size;omega
   intro v2 w2 ho2 _ hout2 _
   have H2:Hid (OwnI w.heap.size w2.heap.size 3 w2 v2 (postsK ks (k+1))):=by
    rw [HN.out]
    refine H_ ?_
    unfold OwnI
    rw [List.length_append,ints_append]
    exact ho2
   obtain ⟨ya,yc,rfl,_⟩:=Own.open ho2
   replace HB:=H_ (Below.outside HB.out hout2 (le_ _) HB.out.size)
   clear ho2 hout2
   go_wp2
   go_roundw
   case rel=>exact ⟨k+1,by omega,by go_num,H_ ⟨H2.out,HB.out⟩⟩
   case measure=>simp [intOf];omega
  ·obtain rfl:k=ks.length:=by omega
   have HO:=HR.out.1
   have hcl:=HKP.out ks.length
   generalize postsK ks ks.length=xs at HO hcl HP ⊢
   have HOO:=H_ HO
   have HB:=H_ hb
   have hc0:wr.cell? ⟨b,0,none⟩=some (.int .i64 t.root):=by rw [hb.cell (p:=⟨b,0,none⟩) hbs];exact c0
   clear HO hb HR c0 c1
   go_wp2_with (at_builtin;go_loud (refine wpList_app_lit wr rfl _ _ 22 rfl 3 (.int .i64 0) 1 8 Tryz.underlying22 info_int rfl (by decide) (by decide) rfl HOO.out 1 (ints [t.root]) rfl rfl (ints_one _) rfl ?c1 ?c2 ?_))
   case c1=>omega
   case c2=>have:=HB.out.size;omega
   intro v2 w2 ho2 hout2 _
   have H2:Hid (OwnI w.heap.size w2.heap.size 3 w2 v2 t.post):=by
    rw [HP.out]
    refine H_ ?_
    unfold OwnI
    rw [List.length_append,ints_append]
    exact ho2
   obtain ⟨ya,yc,rfl,_⟩:=Own.open ho2
   replace HB:=H_ (Below.outside HB.out hout2 (le_ _) HB.out.size)
   clear ho2 hout2
   go_wp2
   go_ret
   exact RetV.mk _ rfl ⟨HB.out,H2.out⟩
theorem stepsL_any:∀ t:KT,StepsL t
 | .leaf n=>stepsL_node _ (fun k h=>by cases h)
 | .star t=>by
  have ha:=stepsL_any t
  exact stepsL_node _ (fun k h=>by
   simp only [KT.kids,List.mem_singleton] at h
   subst h
   exact ha)
 | .bin q a b=>by
  have ha:=stepsL_any a
  have hb:=stepsL_any b
  exact stepsL_node _ (fun k h=>by
   simp only [KT.kids,List.mem_cons,List.mem_nil_iff,or_false] at h
   rcases h with rfl|rfl
   ·exact ha
   ·exact hb)
theorem implBuildL (v:Value) (e:List Int) (t:KT) (w:World) (hx:RdI w v e) (hm:e.length≤1000000) (ht:runK e []=some [t]) :
  Calls Tryz.prog 132 #[v] w (RetV fun p w'=>Below w.heap.size w w'∧RT w.heap.size none w' t p):=by
 obtain ⟨a,cap,rfl,hcap,hcm,_⟩:=hx.open
 have HX:=H_ hx
 have HT:=H_ ht
 clear hx ht
 go_enter Tryz.func132,Tryz.ntmps132
 go_wp2
 go_loopw [3,10] (fun v i wr=>∃ (k n:Nat),k≤e.length∧i=.int .i64 k∧Hid (BuiltTo w.heap.size w wr e k v n)) (fun _ i _=>e.length-(intOf i).toNat)
 case atStart=>exact ⟨0,0,by omega,rfl,H_ ⟨[],[],Own.nil _ _ _ _ _,B_ _ _,by simp [runK],trivial,le_ _⟩⟩
 case round=>
  obtain ⟨k,n,hk,rfl,HR⟩:=hrel
  by_cases hlt:k<e.length
  ·obtain ⟨xs,st,hown,hbel,hrun,hstk,hnk⟩:=HR.out
   obtain ⟨st',hpush,hrun'⟩:=runK_take HT.out k hlt hrun
   obtain ⟨hle,hlen'⟩:=pushK_takes hpush
   obtain ⟨s,hs⟩:∃ s,s=e[k]:=⟨_,rfl⟩
   rw [←hs] at hpush hle hlen'
   obtain ⟨c,hc⟩:∃ c:Nat,takesI s=c:=⟨(takesI s).toNat,by have:=takesI_bd s;omega⟩
   obtain ⟨b,off,rfl,_,_,hbs,hcell⟩:=SlI.get (HX.out.below hbel) k hlt
   have HK:=H_ hbel
   have HP:=H_ hpush
   have HN:=H_ hrun'
   have HS:=H_ hstk
   have hck:wr.cell? ⟨b,off+k,none⟩=some (.int .i64 s):=by rw [hs];exact hcell
   have HTK:Hid (∀ wx,Calls Tryz.prog 121 #[.int .i64 s] wx fun e w'=>e=.returned (.int .i64 (c:Int))∧wx=w'):=H_ fun wx=>by rw [←hc];exact impl_takes s wx
   have hxl:xs.length=n:=by have:=hown.1.1;omega
   have hst:st.length=n:=by have:=hstk.length;simp at this;omega
   obtain ⟨ys,ks,rfl,hks,hys⟩:∃ ys ks,xs=ys++ks∧ks.length=c∧ys.length+c=n:=⟨xs.take (n-c),xs.drop (n-c),(List.take_append_drop _ _).symm,by simp;omega,by simp;omega⟩
   obtain ⟨m,hm'⟩:∃ m,m=ys.length:=⟨_,rfl⟩
   obtain rfl:n=m+c:=by omega
   have hptr:=hstk.ptrs
   have HCK:=H_ (show (ks.length:Int)=takesI s by omega)
   have hle':Below w.heap.size w wr:=hbel
   have hsz:=hbel.size
   clear hs hcell hrun hpush hrun' hle hc
   have hown':=hown
   obtain ⟨⟨_,hv|⟨g,cap2,cur,rfl,hg1,hg2,hg3,hg4,_,_⟩⟩,hlo⟩:=hown'
   ·obtain ⟨rfl,hmc⟩:=hv
    obtain ⟨rfl,rfl⟩:m=0∧c=0:=by omega
    obtain rfl:ys=[]:=List.eq_nil_of_length_eq_zero hm'.symm
    obtain rfl:ks=[]:=List.eq_nil_of_length_eq_zero hks
    have HSL:=H_ (Own.nil 1 wr.heap.size wr.heap.size 139 wr).sl
    clear hm' hown hstk hle' HR hptr hks hys hxl hst
    go_wp2_with (first | (go_at_call 121;refine (HTK.out _).mono ?_;rintro e w' ⟨rfl,rfl⟩) | (at_builtin;go_loud (refine wpList_app_sl rfl _ _ 186 rfl 139 (.pointer none) 1 8 Tryz.underlying186 info_ptr rfl (by decide) (by decide) rfl (Own.nil 1 wr.heap.size wr.heap.size 139 wr) rfl HSL.out (by simp) ?c1 ?c2 ?_)))
    case c1=>omega
    case c2=>omega
    intro v1 w1 ho1 _ hout1 _
    obtain ⟨a1,c1,rfl,_⟩:=Own.open ho1
    have HO1:=H_ ho1
    have HOUT:=H_ hout1
    have hs1:=hout1.size
    obtain ⟨w2,hw2⟩:∃ w2,w2=w1.alloc (.cells #[.int .i64 s,.slice a1 0 c1] 188):=⟨_,rfl⟩
    have hsz2:w2.heap.size=w1.heap.size+1:=by rw [hw2];simp
    have HW2:=H_ hw2
    clear ho1 hout1 hw2
    go_wp2_with (first | rw [←HW2.out] | (at_builtin;go_loud (refine wpList_app_lit_at w2 rfl _ _ 186 rfl 139 (.pointer none) 1 8 Tryz.underlying186 info_ptr rfl (by decide) (by decide) rfl (Own.nil 1 w.heap.size w.heap.size 139 w2) 1 [.pointer (some ⟨w1.heap.size,0,none⟩)] (by rw [hsz2];rfl) rfl (by simp [Value.oneCell']) rfl ?c1 ?c2 ?_)))
    case c1=>omega
    case c2=>omega
    intro v3 w3 ho3 hgr3 hloc _
    have HB3:=H_ (build_step (k:=k) (e:=e) (row:=none) (m:=0) HK.out hsz (fun x hx=>by cases hx) HS.out HP.out HCK.out HN.out (by omega) HO1.out HOUT.out ho3 (by rw [←HW2.out];exact hgr3) (by rw [←HW2.out];simpa [hsz2,Value.ownBlock] using hloc))
    obtain ⟨a3,c3,rfl,_⟩:=Own.open ho3
    clear ho3 hgr3 hloc
    go_wp2
    go_roundw
    case rel=>exact ⟨k+1,1,by omega,by go_num,HB3⟩
    case measure=>simp [intOf];omega
   ·have hglt:=hlo g rfl
    have HO:=H_ hown
    have HREST:=H_ (Own.rest hown hm'.symm c hks)
    have HFR:=H_ (Own.front hown hm'.symm (by simp))
    have HM':=H_ hm'
    clear hm' hown hlo hg2 hstk hle' HR
    have q1:(0:Int)≤m:=by omega
    have q2:(m:Int)≤(m+c:Nat):=by omega
    have q3:(m:Int)≤cap2:=by omega
    have q4:(m:Int)≤(m:Int)+c:=by omega
    have q5:((m:Int)+c).toNat=m+c:=by omega
    have q6:((m:Int)+c-m).toNat=c:=by omega
    have q7:(m:Int)+c-c=m:=by omega
    have q8:((m+c:Nat):Int)-c=m:=by omega
    have q9:(m:Int)+c≤cap2:=by omega
    have q10:m≤cap2:=by omega
    unfold maxLen at hg4
    have q11:m+c-m=c:=by omega
    have HLT:=H_ (And.intro hg1 hglt)
    have HPT:=H_ (fun (u:Value) (hu:u∈ks)=>hptr u (by simp [hu]))
    clear hptr hks hys hxl hst
    have hcases:m=cap2∨¬cap2=m:=by omega
    rcases hcases with rfl|hcm2
    all_goals (
     have HR2:=HREST.out
     first | rw [if_pos rfl,Nat.sub_self] at HR2 | rw [if_neg hcm2] at HR2
     have HREST2:=H_ HR2
     clear HR2
     go_wp2_with (first | (go_at_call 121;refine (HTK.out _).mono ?_;rintro e w' ⟨rfl,rfl⟩) | (at_builtin;go_loud (refine wpList_app_sl rfl _ _ 186 rfl 139 (.pointer none) 1 8 Tryz.underlying186 info_ptr rfl (by decide) (by decide) rfl (Own.nil 1 wr.heap.size wr.heap.size 139 wr) rfl HREST2.out HPT.out ?c1 ?c2 ?_)))
     case c1=>omega
     case c2=>omega
     all_goals (
      intro v1 w1 ho1 _ hout1 _
      obtain ⟨a1,c1,rfl,_⟩:=Own.open ho1
      have HO1:=H_ ho1
      have HOUT:=H_ hout1
      have hs1:=hout1.size
      obtain ⟨w2,hw2⟩:∃ w2,w2=w1.alloc (.cells #[.int .i64 s,.slice a1 c c1] 188):=⟨_,rfl⟩
      have HFR2:=H_ ((HFR.out.outside hout1 (.inl (le_ _))).alloc (.cells #[.int .i64 s,.slice a1 c c1] 188))
      rw [←hw2] at HFR2
      have hsz2:w2.heap.size=w1.heap.size+1:=by rw [hw2];simp
      have HW2:=H_ hw2
      clear ho1 hout1 hw2
      go_wp2_with (first | rw [←HW2.out] | (at_builtin;go_loud (refine wpList_app_lit_at w2 rfl _ _ 186 rfl 139 (.pointer none) 1 8 Tryz.underlying186 info_ptr rfl (by decide) (by decide) rfl HFR2.out 1 [.pointer (some ⟨w1.heap.size,0,none⟩)] (by rw [hsz2];rfl) rfl (by simp [Value.oneCell']) rfl ?c1 ?c2 ?_)))
      case c1=>omega
      case c2=>omega
      intro v3 w3 ho3 hgr3 hloc _
      have HB3:=H_ (build_step (k:=k) (e:=e) (row:=some g) HK.out hsz (fun x hx=>by injection hx with hx;subst hx;exact HLT.out) HS.out HP.out HCK.out HN.out (by omega) HO1.out HOUT.out ho3 (by rw [←HW2.out];exact hgr3) (by rw [←HW2.out];simpa [hsz2,Value.ownBlock] using hloc))
      obtain ⟨a3,c3,rfl,_⟩:=Own.open ho3
      clear ho3 hgr3 hloc
      go_wp2
      go_roundw
      case rel=>exact ⟨k+1,m+1,by omega,by go_num,HB3⟩
      case measure=>simp [intOf];omega))
  ·obtain rfl:k=e.length:=by omega
   obtain ⟨xs,st,hown,hbel,hrun,hstk,hnk⟩:=HR.out
   rw [List.take_length,HT.out] at hrun
   injection hrun with hrun
   subst hrun
   have hxl:xs.length=1:=by have:=hstk.length;simpa using this
   obtain ⟨p,rfl⟩:∃ p,xs=[p]:=by
    match xs,hxl with
    | [p],_=>exact ⟨p,rfl⟩
   obtain rfl:n=1:=by have:=hown.1.1;simpa using this.symm
   have hnode:RT w.heap.size none wr t p:=RT.mono ⟨le_ _,fun i _ h1 h2=>⟨rfl,h1,by simp⟩⟩ hstk.1
   obtain ⟨a3,c3,rfl,h1,h2,_,h3⟩:=Own.open hown
   obtain ⟨g,rfl,_,_⟩:=h3 (by omega)
   have hck:wr.cell? ⟨g,0,none⟩=some p:=by
    obtain ⟨_,_,e1,_,_,_,_,h6⟩:=hown.sl
    obtain ⟨b,off,f1,_,_,_,f2⟩:=h6 0 (by simp)
    injection e1 with e1
    subst e1
    injection f1 with f1
    injection f1 with f1 f1'
    subst f1 f1'
    simpa using f2
   obtain ⟨pa,hpa⟩:=hnode.isPtr
   have HQ:=H_ (And.intro hbel hnode)
   clear hown hstk hnode HR hbel
   subst hpa
   go_wp2
   go_ret
   exact RetV.mk _ rfl HQ.out
theorem hb_bit (t k:Nat):hb t k=t.testBit k:=by
 unfold hb
 rw [Nat.testBit_eq_decide_div_mod_eq,Nat.shiftRight_eq_div_pow]
 rfl
theorem LLs.lit {lo:Nat} {w w':World} {v v' s:Value} {ss:List Value} {xss:List (List Int)} {ys:List Int} (h:LLs lo w.heap.size w v ss xss) (hs:OwnI lo w.heap.size 3 w s ys)
  (ho:Own 1 lo w'.heap.size 22 w' v' (ss.length+1) (ss++[s])) (hg:(w.alloc (.cells #[s] 22)).grownBy w' v.ownBlock):LLs lo w'.heap.size w' v' (ss++[s]) (xss++[ys])∧Outside lo w.heap.size w w':=by
 have hk:=al_below w (.cells #[s] 22)
 have hz:(w.alloc (.cells #[s] 22)).heap.size=w.heap.size+1:=alloc_size _ _
 have hz':=hg.size
 refine ⟨LLs.push (h.below hk (le_ _)) hg ho ((hs.below hk (le_ _)).lower (le_ _) (by omega)) (by omega),Outside.alloc (grown_outside hg h.1.lt)⟩
theorem parts_seq {a' b':KT} (iha:PartsC a') (ihb:PartsC b'):PartsC (.bin false a' b'):=by
 intro lo ptr w α c hp hok hsz hα hc1 hc2 hB
 obtain ⟨ps,⟨b,kv,rfl,_,_,hblk,a,cap,rfl,hpc,hcm,hkid⟩,hstk⟩:=hp.node
 have hpl:=hstk.length
 simp only [KT.kids,List.length_cons,List.length_nil] at hpl
 obtain ⟨u0,u1,rfl⟩:∃ u0 u1,ps=[u0,u1]:=by
  match ps,hpl with
  | [x,y],_=>exact ⟨x,y,rfl⟩
 obtain ⟨gk,ok,rfl,_,_,hgk,kc0⟩:=hkid 0 (by simp)
 obtain ⟨gk',ok',e1,_,_,_,kc1⟩:=hkid 1 (by simp)
 injection e1 with e1
 injection e1 with e1 e2
 subst e1 e2
 simp only [KT.size] at hsz
 have hok2:a'.ok 0=true∧b'.ok 0=true:=by simpa [KT.ok] using hok
 have HSTK:=H_ hstk
 have hqs:∀ x∈partsV a' α c,x.length≤100000:=fun x hx=>by
  have h:=hB (behV x b'.post) (by rw [←partsV_seq_ord,ordL_mem,List.mem_append];exact .inl (List.mem_map.2 ⟨x,hx,rfl⟩))
  unfold behV at h
  split at h
  ·rename_i e;subst e;decide
  ·simp at h;omega
 have HIHa:Hid (∀ w',Below w.heap.size w w'→Calls Tryz.prog 209 #[u0,.int .i64 α,.int .i64 c] w' (RetV fun v w2=>(∃ ss,LLs w'.heap.size w2.heap.size w2 v ss (partsV a' α c))∧Below w'.heap.size w' w2)):=H_ fun w' hb=>iha lo u0 w' α c (RT.below HSTK.out.1 hb) hok2.1 (by omega) hα hc1 hc2 hqs
 have HIHb:Hid ((endsK a').testBit α=true→∀ w',Below w.heap.size w w'→Calls Tryz.prog 209 #[u1,.int .i64 α,.int .i64 c] w' (RetV fun v w2=>(∃ ss,LLs w'.heap.size w2.heap.size w2 v ss (partsV b' α c))∧Below w'.heap.size w' w2)):=H_ fun hbit w' hb=>ihb lo u1 w' α c (RT.below HSTK.out.2.1 hb) hok2.2 (by omega) hα hc1 hc2 (fun x hx=>hB x (by rw [←partsV_seq_ord,ordL_mem,List.mem_append,hbit];exact .inr hx))
 have HGS:Hid (∀ w':World,Below w.heap.size w w'→w'.cell? ⟨b,0,none⟩=some (.int .i64 19)∧w'.cell? ⟨b,1,none⟩=some (.slice (some ⟨gk,ok,none⟩) 2 cap)∧w'.cell? ⟨gk,ok,none⟩=some u0∧w'.cell? ⟨gk,ok+1,none⟩=some u1):=H_ fun w' hb=>⟨(hblk.below hb hblk.lt).cell 0,(hblk.below hb hblk.lt).cell 1,(hb.cell (p:=⟨gk,ok+0,none⟩) hgk).trans kc0,(hb.cell (p:=⟨gk,ok+1,none⟩) hgk).trans kc1⟩
 have hla:=partsV_len hok2.1 (α:=α) hc1
 have hlb:=partsV_len hok2.2 (α:=α) hc1
 have HPV:=H_ (partsV_seq_ord a' b' α c)
 have HIS:=H_ (show isActB 19=false by decide)
 have HGD:=H_ (And.intro hgk (And.intro kc0 kc1))
 have HOK:=H_ hok2
 obtain ⟨S0,S1,S2,S3⟩:=HGS.out w (B_ _ _)
 have HQS:=H_ hqs
 clear hB hqs hp hok hblk hkid hstk hpl hcm hpc kc0 kc1
 obtain ⟨pa,hpa⟩:∃ x,x=partsV a' α c:=⟨_,rfl⟩
 obtain ⟨pb,hpb⟩:∃ x,x=partsV b' α c:=⟨_,rfl⟩
 rw [←hpa] at HIHa HPV hla HQS
 rw [←hpb] at HIHb HPV hlb
 clear hpa hpb
 go_enter Tryz.func209,Tryz.ntmps209
 go_wp2_with (go_at_call 176;refine (isAct_any _ _).mono ?_;rintro e_ _ ⟨rfl,rfl⟩;rw [HIS.out])
 refine (HIHa.out w (B_ _ _)).mono ?_
 rintro e1 w1 ⟨v1,rfl,⟨ss1,h1_⟩,hb1_⟩
 have hz1:=hb1_.size
 have HB1:=H_ hb1_
 have hl1:=h1_.2.1
 have L1:=H_ h1_.sl
 obtain ⟨x1a,x1c,rfl,hq1,hq2⟩:=h1_.sl.shape
 unfold maxLen at hq2
 clear h1_ hb1_ S0 S1 S2 S3
 go_wp2
 go_loopw [7,69] (fun v i wr=>∃ (k:Nat) (ss:List Value),k≤pa.length∧i=.int .i64 k∧Hid (LLs w1.heap.size wr.heap.size wr v ss ((pa.take k).map fun q=>behV q b'.post)∧Below w.heap.size w wr∧Below w1.heap.size w1 wr)) (fun _ i _=>pa.length-(intOf i).toNat)
 case atStart=>exact ⟨0,[],by omega,rfl,H_ ⟨LLs.nil _ _ _,HB1.out,B_ _ _⟩⟩
 case round=>
  obtain ⟨k,ss,hk,rfl,HQ⟩:=hrel
  have hszr:=HQ.out.2.1.size
  have hsz1:=HQ.out.2.2.size
  obtain ⟨s0,s1,s2,s3⟩:=HGS.out wr HQ.out.2.1
  obtain ⟨oa,oc,ho⟩:=Own.shape HQ.out.1.1
  have HOL:=H_ HQ.out.1.2.1
  have hol:ss.length≤pa.length:=by rw [HOL.out];simp;omega
  by_cases hlt:k<pa.length
  ·obtain ⟨b5,off5,u5,rfl,_,_,_,hc5,hu5⟩:=(L1.out.below HQ.out.2.2 (le_ _)).get k hlt
   obtain ⟨pa5,pc5,rfl,_,_⟩:=Sl.shape hu5
   have hlx:=HQS.out pa[k] (List.getElem_mem hlt)
   have HU5:=H_ hu5
   have HQ':=H_ HQ.out
   clear hu5 HQ
   subst ho
   go_wp2_with fail
   refine (stepsL_any b' lo u1 wr (RT.below HSTK.out.2.1 HQ'.out.2.1) (by omega)).mono ?_
   rintro e2 w2 ⟨v2,rfl,hb2,ho2⟩
   have hz2:=hb2.size
   have HPL:=H_ b'.post_length
   have hpl2:b'.post.length≤2000:=by rw [HPL.out];omega
   obtain ⟨ya,yc,rfl⟩:=Own.shape ho2
   have HB2:=H_ hb2
   have HO2:=H_ ho2
   clear hb2 ho2
   go_wp2_with fail
   refine (behind_any _ _ _ _ _ _ pa[k] b'.post w2 (HU5.out.below HB2.out (by omega)) HO2.out.sl (by omega) (le_ _) (by omega)).mono ?_
   rintro e3 w3 ⟨v3,rfl,hb3,ho3⟩
   have hz3:=hb3.size
   obtain ⟨za,zc,rfl⟩:=Own.shape ho3
   have HB3:=H_ (HB2.out.trans (hb3.mono hz2))
   have HO3:=H_ ho3
   have HL3:=H_ (HQ'.out.1.below HB3.out (le_ _))
   have hsz3:=HB3.out.size
   clear hb3 ho3 HO2 HB2
   go_wp2_with (at_builtin;go_loud (refine wpList_app_lit_at w3 rfl _ _ 119 rfl 22 (.slice none 0 0) 1 24 Tryz.underlying119 info_ints rfl (by decide) (by decide) rfl HL3.out.1 1 [.slice za (behV pa[k] b'.post).length zc] rfl rfl (by intro u hu;simp only [List.mem_singleton] at hu;subst hu;rfl) rfl ?c1 ?c2 ?_))
   case c1=>omega
   case c2=>omega
   intro v4 w4 ho4 hg4 _ _
   have HQ5:Hid (LLs w1.heap.size w4.heap.size w4 v4 (ss++[.slice za (behV pa[k] b'.post).length zc]) ((pa.take (k+1)).map fun q=>behV q b'.post)∧Below w.heap.size w w4∧Below w1.heap.size w1 w4):=by
    have hJ:=LLs.lit (HL3.out.lower (le_ _) hsz3) (HO3.out.lower (by omega) (le_ _)) ho4 hg4
    refine H_ ⟨?_,Below.outside (HQ'.out.2.1.trans (HB3.out.mono (by omega))) hJ.2 (by omega) (by omega),Below.outside (HQ'.out.2.2.trans (HB3.out.mono (by omega))) hJ.2 (le_ _) (by omega)⟩
    rw [List.take_succ_eq_append_getElem hlt,List.map_append]
    exact hJ.1
   obtain ⟨qa,qc,rfl⟩:=Own.shape ho4
   clear ho4 hg4
   go_wp2
   go_roundw
   case rel=>exact ⟨k+1,_,by omega,by go_num,HQ5⟩
   case measure=>simp [intOf];omega
  ·obtain rfl:k=pa.length:=by omega
   have HQ':=H_ HQ.out
   clear HQ
   subst ho
   go_wp2_with fail
   refine (stepsL_any a' lo u0 wr (RT.below HSTK.out.1 HQ'.out.2.1) (by omega)).mono ?_
   rintro e2 w2 ⟨v2,rfl,hb2,ho2⟩
   have hz2:=hb2.size
   have HPL:=H_ a'.post_length
   have hpl2:a'.post.length≤2000:=by rw [HPL.out];omega
   obtain ⟨ya,yc,rfl⟩:=Own.shape ho2
   have HB2:=H_ hb2
   have HO2:=H_ ho2
   clear hb2 ho2
   go_wp2_with fail
   refine (ends_any _ _ _ a' w2 HO2.out.sl (le_ _) (by omega) HOK.out.1).mono ?_
   rintro e3 w3 ⟨rfl,hb3⟩
   have hz3:=hb3.size
   have HB3:=H_ (HB2.out.trans (hb3.mono hz2))
   clear hb3 HB2
   go_wp2_with fail
   refine (holds_any (endsK a') α (ends_le HOK.out.1) hα w3).mono ?_
   rintro e4 _ ⟨rfl,rfl⟩
   have HL3:=H_ (show LLs w1.heap.size wr.heap.size w3 (.slice oa ss.length oc) ss (pa.map fun q=>behV q b'.post) from by
    have h:=HQ'.out.1.below HB3.out (le_ _)
    rwa [List.take_length] at h)
   have HBB:=H_ (HQ'.out.2.1.trans (HB3.out.mono (by omega)))
   rw [hb_bit]
   cases hbit:(endsK a').testBit α with
   | false=>
    have HPV':=H_ (show ordL (pa.map fun q=>behV q b'.post)=partsV (.bin false a' b') α c by
     have h:=HPV.out
     rw [hbit,if_neg (by decide),List.append_nil] at h
     exact h)
    clear hbit
    go_wp2_with fail
    refine (parts_ord (w:=w) (yss:=partsV (.bin false a' b') α c) (HL3.out.lower (by omega) (by omega)) HBB.out (by omega) HPV'.out).mono ?_
    rintro e w6 ⟨v6,rfl,⟨ss6,h6⟩,hb6⟩
    have H6:=H_ (And.intro h6 hb6)
    obtain ⟨a6,c6,rfl⟩:=Own.shape h6.1
    clear h6 hb6
    go_wp2
    go_ret
    exact RetV.mk _ rfl ⟨⟨ss6,H6.out.1⟩,H6.out.2⟩
   | true=>
    have HPV':=H_ (show ordL ((pa.map fun q=>behV q b'.post)++pb)=partsV (.bin false a' b') α c by
     have h:=HPV.out
     rw [hbit,if_pos rfl] at h
     exact h)
    have HI:=H_ (HIHb.out hbit w3 HBB.out)
    obtain ⟨s0,s1,s2,s3⟩:=HGS.out w3 HBB.out
    clear hbit HIHb
    go_wp2_with fail
    refine HI.out.mono ?_
    rintro e5 w5 ⟨v5,rfl,⟨ss5,h5_⟩,hb5⟩
    have hz5:=hb5.size
    obtain ⟨x5a,x5c,rfl⟩:=Own.shape h5_.1
    have hl5:ss5.length≤10000:=by have:=h5_.2.1;omega
    have HL5:=H_ h5_
    have HLX:=H_ (HL3.out.below hb5 (by omega))
    have HB5:=H_ (HBB.out.trans (hb5.mono (by omega)))
    clear h5_ hb5
    go_wp2_with (at_builtin;go_loud (refine wpList_app_sl rfl _ _ 119 rfl 22 (.slice none 0 0) 1 24 Tryz.underlying119 info_ints rfl (by decide) (by decide) rfl HLX.out.1 rfl HL5.out.1.sl HL5.out.cellsOne ?c1 ?c2 ?_))
    case c1=>omega
    case c2=>omega
    intro v6 w6 ho6 hg6 hout6 _
    have hz6:=hg6.size
    have HB6:=H_ (Below.outside HB5.out hout6 (by omega) (by omega))
    have H6:=H_ (LLs.join HLX.out hg6 ho6 rfl HL5.out.2.1 (fun i h1 h2=>(HL5.out.2.2 i h1 h2).lower (by omega) hz6) (by omega))
    obtain ⟨x6a,x6c,rfl⟩:=Own.shape ho6
    clear ho6 hg6 hout6
    go_wp2_with fail
    refine (parts_ord (w:=w) (yss:=partsV (.bin false a' b') α c) (H6.out.lower (by omega) (le_ _)) HB6.out (by simp;omega) HPV'.out).mono ?_
    rintro e w7 ⟨v7,rfl,⟨ss7,h7⟩,hb7⟩
    have H7:=H_ (And.intro h7 hb7)
    obtain ⟨a7,c7,rfl⟩:=Own.shape h7.1
    clear h7 hb7
    go_wp2
    go_ret
    exact RetV.mk _ rfl ⟨⟨ss7,H7.out.1⟩,H7.out.2⟩
theorem parts_star {a':KT} (iha:PartsC a'):PartsC (.star a'):=by
 intro lo ptr w α c hp hok hsz hα hc1 hc2 hB
 obtain ⟨ps,⟨b,kv,rfl,_,_,hblk,a,cap,rfl,hpc,hcm,hkid⟩,hstk⟩:=hp.node
 have hpl:=hstk.length
 simp only [KT.kids,List.length_cons,List.length_nil] at hpl
 obtain ⟨u0,rfl⟩:∃ u0,ps=[u0]:=by
  match ps,hpl with
  | [x],_=>exact ⟨x,rfl⟩
 obtain ⟨gk,ok,rfl,_,_,hgk,kc0⟩:=hkid 0 (by simp)
 simp only [KT.size] at hsz
 have hok2:a'.ok 0=true:=by simpa [KT.ok] using hok
 have HPT:=H_ hp
 have HSTK:=H_ hstk
 have hqs:∀ x∈partsV a' α c,x.length≤100000:=fun x hx=>by
  have h:=hB (behV x (KT.star a').post) (by rw [←partsV_star_ord,ordL_mem];exact List.mem_map.2 ⟨x,hx,rfl⟩)
  unfold behV at h
  split at h
  ·rename_i e;subst e;decide
  ·simp at h;omega
 have HIHa:Hid (∀ w',Below w.heap.size w w'→Calls Tryz.prog 209 #[u0,.int .i64 α,.int .i64 c] w' (RetV fun v w2=>(∃ ss,LLs w'.heap.size w2.heap.size w2 v ss (partsV a' α c))∧Below w'.heap.size w' w2)):=H_ fun w' hb=>iha lo u0 w' α c (RT.below HSTK.out.1 hb) hok2 (by omega) hα hc1 hc2 hqs
 have HGS:Hid (∀ w':World,Below w.heap.size w w'→w'.cell? ⟨b,0,none⟩=some (.int .i64 21)∧w'.cell? ⟨b,1,none⟩=some (.slice (some ⟨gk,ok,none⟩) 1 cap)∧w'.cell? ⟨gk,ok,none⟩=some u0):=H_ fun w' hb=>⟨(hblk.below hb hblk.lt).cell 0,(hblk.below hb hblk.lt).cell 1,(hb.cell (p:=⟨gk,ok+0,none⟩) hgk).trans kc0⟩
 have hla:=partsV_len hok2 (α:=α) hc1
 have HPV:=H_ (partsV_star_ord a' α c)
 have HIS:=H_ (show isActB 21=false by decide)
 have HGD:=H_ (And.intro hgk kc0)
 have HOK:=H_ hok2
 obtain ⟨S0,S1,S2⟩:=HGS.out w (B_ _ _)
 have HQS:=H_ hqs
 clear hB hqs hp hok hblk hkid hstk hpl hcm hpc kc0
 obtain ⟨pa,hpa⟩:∃ x,x=partsV a' α c:=⟨_,rfl⟩
 rw [←hpa] at HIHa HPV hla HQS
 clear hpa
 go_enter Tryz.func209,Tryz.ntmps209
 go_wp2_with (go_at_call 176;refine (isAct_any _ _).mono ?_;rintro e_ _ ⟨rfl,rfl⟩;rw [HIS.out])
 refine (HIHa.out w (B_ _ _)).mono ?_
 rintro e1 w1 ⟨v1,rfl,⟨ss1,h1_⟩,hb1_⟩
 have hz1:=hb1_.size
 have HB1:=H_ hb1_
 have hl1:=h1_.2.1
 have L1:=H_ h1_.sl
 obtain ⟨x1a,x1c,rfl,hq1,hq2⟩:=h1_.sl.shape
 unfold maxLen at hq2
 clear h1_ hb1_ S0 S1 S2
 go_wp2
 go_loopw [7,123] (fun v i wr=>∃ (k:Nat) (ss:List Value),k≤pa.length∧i=.int .i64 k∧Hid (LLs w1.heap.size wr.heap.size wr v ss ((pa.take k).map fun q=>behV q (KT.star a').post)∧Below w.heap.size w wr∧Below w1.heap.size w1 wr)) (fun _ i _=>pa.length-(intOf i).toNat)
 case atStart=>exact ⟨0,[],by omega,rfl,H_ ⟨LLs.nil _ _ _,HB1.out,B_ _ _⟩⟩
 case round=>
  obtain ⟨k,ss,hk,rfl,HQ⟩:=hrel
  have hszr:=HQ.out.2.1.size
  have hsz1:=HQ.out.2.2.size
  obtain ⟨s0,s1,s2⟩:=HGS.out wr HQ.out.2.1
  obtain ⟨oa,oc,ho⟩:=Own.shape HQ.out.1.1
  have HOL:=H_ HQ.out.1.2.1
  have hol:ss.length≤pa.length:=by rw [HOL.out];simp;omega
  by_cases hlt:k<pa.length
  ·obtain ⟨b5,off5,u5,rfl,_,_,_,hc5,hu5⟩:=(L1.out.below HQ.out.2.2 (le_ _)).get k hlt
   obtain ⟨pa5,pc5,rfl,_,_⟩:=Sl.shape hu5
   have hlx:=HQS.out pa[k] (List.getElem_mem hlt)
   have HU5:=H_ hu5
   have HQ':=H_ HQ.out
   clear hu5 HQ
   subst ho
   go_wp2_with fail
   refine (stepsL_any (.star a') lo (.pointer (some ⟨b,0,none⟩)) wr (RT.below HPT.out HQ'.out.2.1) (by simp only [KT.size];omega)).mono ?_
   rintro e2 w2 ⟨v2,rfl,hb2,ho2⟩
   have hz2:=hb2.size
   have HPL:=H_ (KT.star a').post_length
   have hpl2:(KT.star a').post.length≤2001:=by rw [HPL.out];simp only [KT.size];omega
   obtain ⟨ya,yc,rfl⟩:=Own.shape ho2
   have HB2:=H_ hb2
   have HO2:=H_ ho2
   clear hb2 ho2
   go_wp2_with fail
   refine (behind_any _ _ _ _ _ _ pa[k] (KT.star a').post w2 (HU5.out.below HB2.out (by omega)) HO2.out.sl (by omega) (le_ _) (by omega)).mono ?_
   rintro e3 w3 ⟨v3,rfl,hb3,ho3⟩
   have hz3:=hb3.size
   obtain ⟨za,zc,rfl⟩:=Own.shape ho3
   have HB3:=H_ (HB2.out.trans (hb3.mono hz2))
   have HO3:=H_ ho3
   have HL3:=H_ (HQ'.out.1.below HB3.out (le_ _))
   have hsz3:=HB3.out.size
   clear hb3 ho3 HO2 HB2
   go_wp2_with (at_builtin;go_loud (refine wpList_app_lit_at w3 rfl _ _ 119 rfl 22 (.slice none 0 0) 1 24 Tryz.underlying119 info_ints rfl (by decide) (by decide) rfl HL3.out.1 1 [.slice za (behV pa[k] (KT.star a').post).length zc] rfl rfl (by intro u hu;simp only [List.mem_singleton] at hu;subst hu;rfl) rfl ?c1 ?c2 ?_))
   case c1=>omega
   case c2=>omega
   intro v4 w4 ho4 hg4 _ _
   have HQ5:Hid (LLs w1.heap.size w4.heap.size w4 v4 (ss++[.slice za (behV pa[k] (KT.star a').post).length zc]) ((pa.take (k+1)).map fun q=>behV q (KT.star a').post)∧Below w.heap.size w w4∧Below w1.heap.size w1 w4):=by
    have hJ:=LLs.lit (HL3.out.lower (le_ _) hsz3) (HO3.out.lower (by omega) (le_ _)) ho4 hg4
    refine H_ ⟨?_,Below.outside (HQ'.out.2.1.trans (HB3.out.mono (by omega))) hJ.2 (by omega) (by omega),Below.outside (HQ'.out.2.2.trans (HB3.out.mono (by omega))) hJ.2 (le_ _) (by omega)⟩
    rw [List.take_succ_eq_append_getElem hlt,List.map_append]
    exact hJ.1
   obtain ⟨qa,qc,rfl⟩:=Own.shape ho4
   clear ho4 hg4
   go_wp2
   go_roundw
   case rel=>exact ⟨k+1,_,by omega,by go_num,HQ5⟩
   case measure=>simp [intOf];omega
  ·obtain rfl:k=pa.length:=by omega
   have HQ':=H_ HQ.out
   clear HQ
   subst ho
   have HL3:=H_ (show LLs w1.heap.size wr.heap.size wr (.slice oa ss.length oc) ss (pa.map fun q=>behV q (KT.star a').post) from by
    have h:=HQ'.out.1
    rwa [List.take_length] at h)
   go_wp2_with fail
   refine (parts_ord (w:=w) (yss:=partsV (.star a') α c) (HL3.out.lower (by omega) (by omega)) HQ'.out.2.1 (by omega) HPV.out).mono ?_
   rintro e w6 ⟨v6,rfl,⟨ss6,h6⟩,hb6⟩
   have H6:=H_ (And.intro h6 hb6)
   obtain ⟨a6,c6,rfl⟩:=Own.shape h6.1
   clear h6 hb6
   go_wp2
   go_ret
   exact RetV.mk _ rfl ⟨⟨ss6,H6.out.1⟩,H6.out.2⟩
theorem parts_any:∀ t:KT,PartsC t
 | .leaf n=>parts_leaf n
 | .bin true a b=>parts_or (parts_any a) (parts_any b)
 | .bin false a b=>parts_seq (parts_any a) (parts_any b)
 | .star a=>parts_star (parts_any a)
theorem indexFuncP (lo hi:Nat) (v c:Value) (xss:List (List Int)) (p:List Int→Bool) (w:World) (hx:SlLL lo hi w v xss) (hh:hi≤w.heap.size) (hm:xss.length≤1048576)
  (hf:∀ i (h:i<xss.length) u w',Below w.heap.size w w'→SlI lo hi w' u xss[i]→Calls Tryz.prog 236 #[u,c] w' fun e w''=>e=.returned (.bool (p xss[i]))∧Below w'.heap.size w' w'') :
  Calls Tryz.prog 235 #[v,.func (.func 236) #[] #[c]] w fun e w'=>e=.returned (.int .i64 (idxP p xss))∧Below w.heap.size w w':=by
 have HF:=H_ hf
 have HX:=H_ hx
 obtain ⟨a,cap,rfl,hcap,hcm⟩:=hx.shape
 unfold maxLen at hcm
 clear hx hf
 go_enter Tryz.func235,Tryz.ntmps235
 go_wp2
 go_loopw [8] (fun i wr=>∃ j:Nat,j≤xss.length∧i=.int .i64 j∧Hid (Below w.heap.size w wr∧∀ n,n<j→∀ h:n<xss.length,p xss[n]=false)) (fun i _=>xss.length-(intOf i).toNat)
 case atStart=>exact ⟨0,by omega,rfl,H_ ⟨B_ _ _,fun n h=>by omega⟩⟩
 case round=>
  obtain ⟨j,hj,rfl,HQ⟩:=hrel
  by_cases hlt:j<xss.length
  ·obtain ⟨b,off,u,rfl,_,_,_,hcell,hu⟩:=(HX.out.below HQ.out.1 hh).get j hlt
   have HC:=H_ (HF.out j hlt u wr HQ.out.1 hu)
   clear hu
   go_wp2_with fail
   refine HC.out.mono ?_
   rintro e w1 ⟨rfl,hb⟩
   have HB:=H_ (HQ.out.1.trans (hb.mono HQ.out.1.size))
   clear hb HC
   cases hp:p xss[j]
   ·have HN:Hid (∀ n,n<j+1→∀ h:n<xss.length,p xss[n]=false):=H_ fun n hn h=>by
     by_cases e:n=j
     ·subst e;exact hp
     ·exact HQ.out.2 n (by omega) h
    clear hp
    go_wp2
    go_roundw
    case rel=>exact ⟨j+1,by omega,by go_num,H_ ⟨HB.out,HN.out⟩⟩
    case measure=>simp [intOf];omega
   ·have HI:=H_ (idxP_at p xss j hlt hp HQ.out.2)
    clear hp
    go_wp2
    go_ret
    exact ⟨ret_int HI.out.symm,HB.out⟩
  ·have HI:=H_ (idxP_none p xss fun n h=>HQ.out.2 n (by omega) h)
   go_wp2
   go_ret
   exact ⟨ret_int HI.out.symm,HQ.out.1⟩
theorem partAt_fn (lo hi lo' hi' g:Nat) (p u:Value) (x xs:List Int) (w:World) (hk:Blk g (.cells #[p] 22) w) (hp:SlI lo' hi' w p x) (hu:SlI lo hi w u xs) :
  Calls Tryz.prog 236 #[u,.pointer (some ⟨g,0,none⟩)] w fun e w'=>e=.returned (.bool (eqL x xs))∧Below w.heap.size w w':=by
 have c0:=hk.cell 0
 have HC:=H_ (slEq_any lo' hi' lo hi p u x xs w hp hu)
 obtain ⟨pa,pc,rfl,_,_⟩:=Sl.shape hp
 clear hk hu hp
 go_enter Tryz.func236,Tryz.ntmps236
 go_wp2_with fail
 refine HC.out.mono ?_
 rintro e w1 ⟨rfl,hb⟩
 have HB:=H_ hb
 clear hb HC
 go_wp2
 go_ret
 exact ⟨rfl,HB.out⟩
theorem partAt_any (lo hi lo' hi':Nat) (v p:Value) (xss:List (List Int)) (x:List Int) (w:World) (hx:SlLL lo hi w v xss) (hp:SlI lo' hi' w p x) (hh:hi≤w.heap.size) (hh':hi'≤w.heap.size) (hm:xss.length≤1048576) :
  Calls Tryz.prog 210 #[v,p] w fun e w'=>e=.returned (.int .i64 (idxP (eqL x) xss))∧Below w.heap.size w w':=by
 obtain ⟨pa,pc,rfl,_,_⟩:=Sl.shape hp
 obtain ⟨xa,xc,rfl,_,_⟩:=hx.shape
 have HX:=H_ hx
 have HP:=H_ hp
 have HBA:=H_ ((B_ w.heap.size w).alloc (le_ _) (.cells #[.slice pa x.length pc] 22))
 have HK:=H_ (Blk.new w (.cells #[.slice pa x.length pc] 22))
 clear hx hp
 go_enter Tryz.func210,Tryz.ntmps210
 go_wp2_with fail
 refine (indexFuncP lo hi _ _ xss (eqL x) _ (HX.out.below HBA.out hh) (by simp;omega) hm fun i h u w' hb hu=>partAt_fn lo hi lo' hi' w.heap.size _ u x xss[i] w' (HK.out.below hb (by simp)) (HP.out.below (HBA.out.trans (hb.mono (by simp))) hh') hu).mono ?_
 rintro e w2 ⟨rfl,hb⟩
 have HB:=H_ (HBA.out.trans (hb.mono (by simp)))
 clear hb
 go_wp2
 go_ret
 exact ⟨rfl,HB.out⟩
theorem OwnI.typed {lo hi lo' hi' n:Nat} {w w':World} {v u:Value} {xs:List Value} {ys:List Int} (hO:Own 1 lo' hi' 22 w v n xs) (hg:w.grownBy w' v.ownBlock) (hu:OwnI lo hi 3 w u ys):OwnI lo hi 3 w' u ys:=by
 refine ⟨hu.1.kept hg ?_,hu.2⟩
 cases hub:u.ownBlock with
 | none=>exact .inl rfl
 | some k=>
  right
  intro e
  rcases hu.1.2 with ⟨rfl,_⟩|⟨g',cap',cur',rfl,_,hg',_⟩
  ·cases hub
  ·rcases hO.1.2 with ⟨rfl,_⟩|⟨gO,capO,curO,rfl,_,hgO,_⟩
   ·cases e
   ·simp only [Value.ownBlock,Option.some.injEq] at hub e
    rw [hub,e] at hg'
    rw [hg'] at hgO
    injection hgO with hgO
    injection hgO with _ h2 _
    exact absurd h2 (by decide)
theorem LLs.far {lo hi lo' hi' n:Nat} {w w':World} {pv v:Value} {ss xs:List Value} {xss:List (List Int)} (h:LLs lo hi w pv ss xss) (hO:Own 1 lo' hi' 22 w v n xs) (hg:w.grownBy w' v.ownBlock)
  (hd:pv.ownBlock=none∨pv.ownBlock≠v.ownBlock):LLs lo hi w' pv ss xss:=
 ⟨⟨h.1.1.kept hg hd,h.1.2⟩,h.2.1,fun i h1 h2=>OwnI.typed hO hg (h.2.2 i h1 h2)⟩
theorem LLs.one {lo:Nat} {w:World} {s:Value} {ys:List Int} (hs:OwnI lo w.heap.size 3 w s ys) (hl:lo≤w.heap.size) :
  LLs lo (w.heap.size+1) (w.alloc (.cells #[s] 22)) (.slice (some ⟨w.heap.size,0,none⟩) 1 1) [s] [ys]:=by
 have h:=Own.lit 1 22 w [s] 1 (by omega) rfl
 refine ⟨h.wide2 hl (le_ _),rfl,fun i h1 h2=>?_⟩
 simp only [List.length_singleton] at h1
 obtain rfl:i=0:=by omega
 exact (hs.below (al_below _ _) (le_ _)).lower (le_ _) (by omega)
structure AP (w0 w:World) (v p:Value) (ss:List Value) (o:List (List Int)) (t:KT):Prop where
 rows:LLs w0.heap.size w.heap.size w v ss o
 below:Below w0.heap.size w0 w
 tree:RT w0.heap.size v.ownBlock w t p
theorem AP.free {w0 w:World} {v p:Value} {ss:List Value} {o:List (List Int)} {t:KT} (h:AP w0 w v p ss o t):RT w0.heap.size none w t p:=
 RT.mono ⟨le_ _,fun k h0 h1 h2=>⟨rfl,h1,by simp⟩⟩ h.tree
theorem AP.go {w0 w w':World} {v p:Value} {ss:List Value} {o:List (List Int)} {t:KT} (h:AP w0 w v p ss o t) (hb:Below w.heap.size w w'):AP w0 w' v p ss o t:=
 ⟨(h.rows.below hb (le_ _)).lower (le_ _) hb.size,h.below.trans (hb.mono h.below.size),h.tree.below hb⟩
theorem AP.push {w0 w w':World} {v v' p s:Value} {ss:List Value} {o:List (List Int)} {t:KT} {ys:List Int} (h:AP w0 w v p ss o t) (hs:OwnI w0.heap.size w.heap.size 3 w s ys)
  (ho:Own 1 w0.heap.size w'.heap.size 22 w' v' (ss.length+1) (ss++[s])) (hg:(w.alloc (.cells #[s] 22)).grownBy w' v.ownBlock) (hl:v'.ownBlock=v.ownBlock∨v'.ownBlock=some (w.alloc (.cells #[s] 22)).heap.size) :
  AP w0 w' v' p (ss++[s]) (o++[ys]) t:=by
 have hJ:=LLs.lit h.rows hs ho hg
 have hz:(w.alloc (.cells #[s] 22)).heap.size=w.heap.size+1:=alloc_size _ _
 have hz':=hg.size
 refine ⟨hJ.1,Below.outside h.below hJ.2 (le_ _) h.below.size,?_⟩
 refine RT.mono ⟨by omega,fun k h0 h1 h2=>⟨?_,h1,?_⟩⟩ (h.tree.below (al_below w (.cells #[s] 22)))
 ·exact hg.block k h0 h2
 ·rcases hl with e|e
  ·rw [e];exact h2
  ·rw [e];simp;omega
theorem AP.pushFar {w0 w w':World} {lo hi:Nat} {v v' p s pv:Value} {ss sp:List Value} {o ps:List (List Int)} {t:KT} (h:AP w0 w v p ss o t) (hp:LLs lo hi w pv sp ps) (hh:hi≤w.heap.size) (hd:pv.ownBlock=none∨pv.ownBlock≠v.ownBlock)
  (hg:(w.alloc (.cells #[s] 22)).grownBy w' v.ownBlock) (hl:v'.ownBlock=v.ownBlock∨v'.ownBlock=some (w.alloc (.cells #[s] 22)).heap.size) :
  LLs lo hi w' pv sp ps∧(pv.ownBlock=none∨pv.ownBlock≠v'.ownBlock):=by
 have hk:=al_below w (.cells #[s] 22)
 refine ⟨LLs.far (hp.below hk hh) (h.rows.1.below hk (le_ _)) hg hd,?_⟩
 rcases hl with e|e
 ·rw [e];exact hd
 ·rw [e]
  cases hb:pv.ownBlock with
  | none=>exact .inl rfl
  | some g=>
   right
   have:=(hp.1.1.lt g hb).2
   have hz:(w.alloc (.cells #[s] 22)).heap.size=w.heap.size+1:=alloc_size _ _
   simp
   omega
theorem LLs.at {lo hi n cap:Nat} {w:World} {a:Option Addr} {ss:List Value} {xss:List (List Int)} (h:LLs lo hi w (.slice a n cap) ss xss) (i:Nat) (h1:i<ss.length) (h2:i<xss.length) :
  ∃ g,a=some ⟨g,0,none⟩∧lo≤g∧g<hi∧g<w.heap.size∧w.cell? ⟨g,i,none⟩=some ss[i]∧OwnI lo hi 3 w ss[i] xss[i]:=by
 rcases h.1.1.2 with ⟨e,h0⟩|⟨g,cap',cur,e,hb,hg,rest⟩
 ·simp at e
  have:=h.1.1.1
  simp [h0] at h1
 ·injection e with e1 e2 e3
  subst e1
  have hl:=h.1.lt g rfl
  refine ⟨g,rfl,hl.1,hl.2,(Array.getElem?_eq_some_iff.1 hg).1,?_,h.2.2 i h1 h2⟩
  have:=h.1.1.cells (g:=g) rfl i ss[i] (List.getElem?_eq_getElem h1)
  rwa [Addr.add_lit,Nat.zero_add] at this
theorem idxP_neg (x:List Int) (o:List (List Int)):decide (idxP (eqL x) o<0)=!decide (x∈o):=by
 have h:=idxP_any (eqL x) o
 have h2:(o.any (eqL x))=decide (x∈o):=by
  rw [Bool.eq_iff_iff,List.any_eq_true,decide_eq_true_eq]
  constructor
  ·rintro ⟨y,h1,h2⟩
   rw [eqL_iff,decide_eq_true_eq] at h2
   rw [h2];exact h1
  ·intro h;exact ⟨x,h,eqL_same x⟩
 rw [←h2,←h,←decide_not]
 congr 1
 simp
theorem allParts_any (lo hi:Nat) (v:Value) (t0:KT) (w:World) (hx:SlI lo hi w v t0.post) (hh:hi≤w.heap.size) (hok:t0.ok 0=true) (hsz:t0.size≤40) :
    Calls Tryz.prog 208 #[v] w (RetV fun v w'=>(∃ ss,LLs w.heap.size w'.heap.size w' v ss (allV t0.post))∧Below w.heap.size w w'):=by
  have HX:=H_ hx
  obtain ⟨a,cap,rfl,hcap,hcm⟩:=Sl.shape hx
  have HA0:=H_ (AllI.one (P:=Cl t0) (t:=t0) (List.mem_cons_self ..))
  have HK:=H_ (Cl.kept hok)
  have HOK:=H_ hok
  have HPL:=H_ t0.post_length
  have hpl:t0.post.length≤40:=by rw [HPL.out];exact hsz
  clear hx
  go_enter Tryz.func208,Tryz.ntmps208
  go_wp2_with fail
  refine (cloneI_any _ _ _ _ _ HX.out (by omega)).mono ?_
  rintro e1 w1 ⟨v1,rfl,hb1,ho1⟩
  have hz1:=hb1.size
  have hH:=LLs.one ho1 hz1
  have H1:=H_ hH
  have HB1:=H_ (hb1.alloc hz1 (.cells #[v1] 22))
  obtain ⟨oa,oc,rfl⟩:=Own.shape ho1
  clear hb1 ho1 hH
  go_wp2
  go_loopw [3,4] (fun v i wr=>∃ (k:Nat) (ss:List Value) (o:List (List Int)),k≤ss.length∧ss.length≤41∧i=.int .i64 k∧Hid (LLs w.heap.size wr.heap.size wr v ss o∧Below w.heap.size w wr∧allGo (60-k) k o=allV t0.post∧AllI (Cl t0) o)) (fun _ i _=>60-(intOf i).toNat)
  case atStart=>exact ⟨0,[_],[t0.post],by simp,by simp,rfl,H_ ⟨H1.out.lower (le_ _) (by simp),HB1.out,rfl,HA0.out⟩⟩
  case round=>
    obtain ⟨k,ss,o,hk,h41,rfl,HQ⟩:=hrel
    have hszr:=HQ.out.2.1.size
    obtain ⟨oa,oc,rfl⟩:=Own.shape HQ.out.1.1
    have HOL:=H_ HQ.out.1.2.1
    by_cases hlt:k<ss.length
    · have hko:k<o.length:=by rw [←HOL.out];exact hlt
      obtain ⟨b5,off5,u5,rfl,_,_,_,hc5,hu5⟩:=HQ.out.1.sl.get k hko
      have HU5:=H_ hu5
      have HQ':=H_ HQ.out
      have HT:=H_ (AllI.tree HK.out HQ'.out.2.2.2 hko)
      obtain ⟨t,ht⟩:∃ t,t=treeOf (o.getD k []):=⟨_,rfl⟩
      rw [←ht] at HT
      have HTS:=H_ (Cl.size HT.out.1 hsz)
      have HTO:=H_ (HK.out.ok HT.out.1)
      have HOT:=H_ (show o[k]=t.post from by rw [HT.out.2,List.getD,List.getElem?_eq_getElem hko];rfl)
      obtain ⟨pa5,pc5,rfl,_,_⟩:=Sl.shape hu5
      clear hu5 HQ
      go_wp2_with fail
      refine (implBuildL _ o[k] t wr (SlI.rd HU5.out (le_ _)) (by rw [HOT.out,t.post_length];have:=HTS.out;omega) (by rw [HOT.out];exact runK_post 0 t HTO.out [])).mono ?_
      rintro e2 w2 ⟨p2,rfl,hb2,hrt2⟩
      have hz2:=hb2.size
      obtain ⟨pp2,rfl⟩:=hrt2.isPtr
      have HAP:Hid (AP w w2 (.slice (some ⟨b5,off5,none⟩) ss.length oc) (.pointer pp2) ss (rowL o t 0) t):=H_ ⟨(HQ'.out.1.below hb2 (le_ _)).lower (le_ _) hz2,HQ'.out.2.1.trans (hb2.mono hszr),RT.mono ⟨le_ _,fun j h0 h1 h2=>⟨rfl,by omega,fun e=>by
        have:=(HQ'.out.1.1.1.lt j e.symm).2
        omega⟩⟩ hrt2⟩
      have HRI:=H_ (fun m (hm:m≤12)=>AllI.row HK.out HQ'.out.2.2.2 HT.out.1 hm)
      have HRL:=H_ (fun m (hm:m≤12)=>(HRI.out m hm).len hsz)
      have HRN:=H_ (show allGo (60-(k+1)) (k+1) (rowL o t 12)=allV t0.post from by
        have h:=HQ'.out.2.2.1
        rw [show 60-k=(60-(k+1))+1 by omega,allGo_more (by rw [←HOL.out];exact hlt),←ht] at h
        exact h)
      have HT1:=H_ HT.out.1
      have HRP:=H_ (rowL_pre o t 12)
      clear hb2 hrt2 hc5 HU5 HOT ht HQ' HT
      go_wp2
      go_loopw [3,24] (fun v i wx=>∃ (α:Nat) (ss2:List Value),α≤4∧ss2.length≤41∧i=.int .i64 α∧Hid (AP w wx v (.pointer pp2) ss2 (rowL o t (3*α)) t)) (fun _ i _=>4-(intOf i).toNat)
      case atStart=>exact ⟨0,ss,by omega,by omega,rfl,HAP⟩
      case round=>
        clear HAP
        obtain ⟨α,ss2,hα,h41',rfl,HA⟩:=hrel
        by_cases hlt2:α<4
        · have hd2:decide ((α:Int)<4)=true:=by simp;omega
          go_wp2
          go_loopw [3,7] (fun v i wx=>∃ (j:Nat) (ss2:List Value),j≤3∧ss2.length≤41∧i=.int .i64 (16+(j:Int))∧Hid (AP w wx v (.pointer pp2) ss2 (rowL o t (3*α+j)) t)) (fun _ i _=>19-(intOf i).toNat)
          case atStart=>exact ⟨0,ss2,by omega,by omega,rfl,HA⟩
          case round=>
            clear HA
            rename World=>wx
            obtain ⟨j,ss3,hj,h41'',rfl,HA⟩:=hrel
            by_cases hlt3:j<3
            · have hd3:decide ((16:Int)+(j:Int)≤18)=true:=by simp;omega
              go_wp2_with fail
              refine (parts_any t _ _ _ α (16+(j:Int)) HA.out.free HTO.out (by have:=HTS.out;omega) hlt2 (by omega) (by omega) (fun x hx=>?_)).mono ?_
              · obtain ⟨q, hq1, hq2⟩ := (HRI.out (3 * α + j + 1) (by omega)).mem x (rowL_mem.2 (.inr ⟨3 * α + j, by omega, by
                  unfold moveP
                  rw [show (3*α+j)/3=α by omega,show (3*α+j)%3=j by omega]
                  exact hx⟩))
                rw [←hq2,q.post_length]
                have:=Cl.size hq1 hsz
                omega
              rintro e3 w3 ⟨v3,rfl,⟨sp,h3_⟩,hb3_⟩
              have hz3:=hb3_.size
              have hzx:=HA.out.below.size
              have hpn:=partsV_len HTO.out (α:=α) (c:=16+(j:Int)) (by omega)
              have hts:=HTS.out
              have HMP:=H_ (show moveP t (3*α+j)=partsV t α (16+(j:Int)) by
                unfold moveP
                rw [show (3*α+j)/3=α by omega,show (3*α+j)%3=j by omega])
              obtain ⟨ps,hps⟩:∃ x,x=partsV t α (16+(j:Int)):=⟨_,rfl⟩
              rw [←hps] at h3_ HMP hpn
              clear hps
              have hsl:=h3_.2.1
              have hsl2:sp.length≤100000:=by omega
              have HSL:=H_ hsl
              have HA3:=H_ (HA.out.go hb3_)
              have H3:=H_ h3_
              obtain ⟨pva,pvc,rfl⟩:=Own.shape h3_.1
              obtain ⟨ova,ovc,rfl⟩:=Own.shape HA.out.rows.1
              have HNE:Hid ((Value.slice pva sp.length pvc).ownBlock=none∨(Value.slice pva sp.length pvc).ownBlock≠(Value.slice ova ss3.length ovc).ownBlock):=H_ (by
                cases hb:(Value.slice pva sp.length pvc).ownBlock with
                | none=>exact .inl rfl
                | some g=>
                  right
                  intro e
                  have h1:=(h3_.1.1.lt g hb).1
                  have h2:=(HA.out.rows.1.1.lt g e.symm).2
                  omega)
              have HNI:=H_ (show ∀ n,AllI (Cl t0) (newL (rowL o t (3*α+j)) (ps.take n)) from fun n=>AllI.new (HRI.out _ (by omega)) fun x hx=>moveP_kept HK.out HT1.out (m:=3*α+j) (by omega) x (by rw [HMP.out];exact List.mem_of_mem_take hx))
              clear h3_ hb3_ hsl hpn HA
              go_wp2
              go_loopw [3,36] (fun v i wy=>∃ (n:Nat) (ss4:List Value),n≤sp.length∧ss4.length≤41∧i=.int .i64 n∧Hid (AP w wy v (.pointer pp2) ss4 (newL (rowL o t (3*α+j)) (ps.take n)) t∧LLs wx.heap.size w3.heap.size wy (.slice pva sp.length pvc) sp ps∧((Value.slice pva sp.length pvc).ownBlock=none∨(Value.slice pva sp.length pvc).ownBlock≠v.ownBlock)∧w3.heap.size≤wy.heap.size)) (fun _ i _=>sp.length-(intOf i).toNat)
              case atStart=>exact ⟨0,ss3,by omega,by omega,rfl,H_ ⟨HA3.out,H3.out,HNE.out,le_ _⟩⟩
              case round=>
                clear HA3 H3 HNE
                rename World=>wy
                obtain ⟨n,ss4,hn,h41_,rfl,HA⟩:=hrel
                obtain ⟨qva,qvc,rfl⟩:=Own.shape HA.out.1.rows.1
                by_cases hlt4:n<sp.length
                · have hnp:n<ps.length:=by rw [←HSL.out];exact hlt4
                  have hzy:=HA.out.2.2.2
                  have HNX:=H_ (newL_snoc ps[n] (ps.take n) (rowL o t (3*α+j)))
                  have HN1:=H_ (HNI.out (n+1))
                  rw [List.take_succ_eq_append_getElem hnp,HNX.out] at HN1
                  obtain ⟨g6,rfl,_,_,hg6,hc6,hu6⟩:=HA.out.2.1.at n hlt4 hnp
                  have HU6:=H_ hu6
                  obtain ⟨pa6,pc6,hs6⟩:=Own.shape hu6
                  rw [hs6] at hc6
                  have HS6:=H_ hs6
                  clear hs6 hu6
                  go_wp2_with fail
                  refine (partAt_any _ _ _ _ _ _ _ ps[n] wy HA.out.1.rows.sl (by rw [←HS6.out];exact HU6.out.sl) (le_ _) (by omega) (by rw [←HA.out.1.rows.2.1];omega)).mono ?_
                  rintro e7 w7 ⟨rfl,hb7⟩
                  have hz7:=hb7.size
                  have HA7:=H_ (HA.out.1.go hb7)
                  have HP7:=H_ (HA.out.2.1.below hb7 (by omega))
                  have HU7:=H_ (HU6.out.below hb7 (by omega))
                  have HNE:=H_ HA.out.2.2.1
                  have HNG:=H_ (idxP_neg ps[n] (newL (rowL o t (3*α+j)) (ps.take n)))
                  clear hb7 HA
                  obtain ⟨z,hzz⟩:∃ z,z=idxP (eqL ps[n]) (newL (rowL o t (3*α+j)) (ps.take n)):=⟨_,rfl⟩
                  rw [←hzz] at HNG ⊢
                  clear hzz
                  by_cases hmem:ps[n]∈newL (rowL o t (3*α+j)) (ps.take n)
                  · have hz0:¬z<0:=by have h:=HNG.out;simp only [hmem,decide_true,Bool.not_true,decide_eq_false_iff_not] at h;exact h
                    have HE:Hid (newL (rowL o t (3*α+j)) (ps.take (n+1))=newL (rowL o t (3*α+j)) (ps.take n)):=H_ (by rw [List.take_succ_eq_append_getElem hnp,HNX.out,if_pos hmem])
                    have hc7:decide (z<0)=false:=by simp;omega
                    clear hmem HNG HNX HN1
                    go_wp2
                    go_roundw
                    case rel=>exact ⟨n+1,ss4,by omega,by omega,by go_num,H_ ⟨by rw [HE.out];exact HA7.out,HP7.out,HNE.out,by omega⟩⟩
                    case measure=>simp [intOf];omega
                  · have hz0:z<0:=by have h:=HNG.out;simp only [hmem,decide_false,Bool.not_false,decide_eq_true_eq] at h;exact h
                    have HE:Hid (newL (rowL o t (3*α+j)) (ps.take (n+1))=newL (rowL o t (3*α+j)) (ps.take n)++[ps[n]]):=H_ (by rw [List.take_succ_eq_append_getElem hnp,HNX.out,if_neg hmem])
                    rw [if_neg hmem] at HN1
                    have hc7:decide (z<0)=true:=by simp;omega
                    clear hmem HNG HNX
                    go_wp2_with (at_builtin;go_loud (refine wpList_app_lit_at w7 rfl _ _ 119 rfl 22 (.slice none 0 0) 1 24 Tryz.underlying119 info_ints rfl (by decide) (by decide) rfl HA7.out.rows.1 1 [.slice pa6 ps[n].length pc6] rfl rfl (by intro u hu;simp only [List.mem_singleton] at hu;subst hu;rfl) rfl ?c1 ?c2 ?_))
                    case c1=>omega
                    case c2=>exact HA7.out.below.size
                    intro v8 w8 ho8 hg8 hl8 _
                    replace hl8:v8.ownBlock=(Value.slice qva ss4.length qvc).ownBlock∨v8.ownBlock=some (w7.alloc (.cells #[.slice pa6 ps[n].length pc6] 22)).heap.size:=by rw [alloc_size];exact hl8
                    have HA8:Hid (AP w w8 v8 (.pointer pp2) (ss4++[.slice pa6 ps[n].length pc6]) (newL (rowL o t (3*α+j)) (ps.take n)++[ps[n]]) t):=H_ (AP.push HA7.out (by rw [←HS6.out];exact HU7.out.lower (by omega) (by omega)) ho8 hg8 hl8)
                    have HF8:=H_ (AP.pushFar HA7.out HP7.out (by omega) HNE.out hg8 hl8)
                    have hz8:=hg8.size
                    have hz8':(w7.alloc (.cells #[.slice pa6 ps[n].length pc6] 22)).heap.size=w7.heap.size+1:=alloc_size _ _
                    have hl41:(ss4++[Value.slice pa6 ps[n].length pc6]).length≤41:=by rw [HA8.out.rows.2.1];exact HN1.out.len hsz
                    have HL41:=H_ hl41
                    obtain ⟨y8,yc8,rfl⟩:=Own.shape ho8
                    clear ho8 hg8 hl8 hl41
                    go_wp2
                    go_roundw
                    case rel=>exact ⟨n+1,_,by omega,HL41.out,by go_num,H_ ⟨by rw [HE.out];exact HA8.out,HF8.out.1,HF8.out.2,by omega⟩⟩
                    case measure=>simp [intOf];omega
                · obtain rfl:n=sp.length:=by omega
                  have HAF:Hid (AP w wy (.slice qva ss4.length qvc) (.pointer pp2) ss4 (rowL o t (3*α+(j+1))) t):=H_ (by
                    have h:=HA.out.1
                    rw [HSL.out,List.take_length,←HMP.out] at h
                    exact h)
                  clear HA HNI HSL HMP
                  go_wp2
                  go_roundw
                  case rel=>exact ⟨j+1,ss4,by omega,by omega,by go_num,HAF⟩
                  case measure=>simp [intOf];omega
            · obtain rfl:j=3:=by omega
              obtain ⟨qva,qvc,rfl⟩:=Own.shape HA.out.rows.1
              go_wp2
              go_roundw
              case rel=>exact ⟨α+1,ss3,by omega,by omega,by go_num,HA⟩
              case measure=>simp [intOf];omega
        · obtain rfl:α=4:=by omega
          obtain ⟨qva,qvc,rfl⟩:=Own.shape HA.out.rows.1
          have HLL:=H_ (show k+1≤ss2.length from by
            obtain ⟨r,hr⟩:=HRP.out
            have h1:=HA.out.rows.2.1
            rw [show 3*4=12 from rfl,hr,List.length_append,←HOL.out] at h1
            omega)
          go_wp2
          go_roundw
          case rel=>exact ⟨k+1,ss2,_,HLL.out,by omega,by go_num,H_ ⟨HA.out.rows,HA.out.below,HRN.out,HRI.out 12 (le_ _)⟩⟩
          case measure=>simp [intOf];omega
    · obtain rfl:k=ss.length:=by omega
      have HE:=H_ (show o=allV t0.post from by
        have h:=HQ.out.2.2.1
        rwa [show 60-ss.length=(59-ss.length)+1 by omega,allGo_done (by rw [HOL.out];exact le_ _)] at h)
      go_wp2
      go_ret
      exact RetV.mk _ rfl ⟨⟨ss,by rw [←HE.out];exact HQ.out.1⟩,HQ.out.2.1⟩
end
end Go.Proofs.YtfnnhimopokpnaaGreatDoor
