/- Lemmas for this seat; no condition. -/
import Derived.Test.YtfnnhimopokpnaaGreatDoorHAAA
import Derived.Test.YtfnnhimopokpnaaGreatDoorHAShelf
import Derived.Deep.WholeRow
import Derived.Lib.LazyBuf
namespace Go.Proofs.YtfnnhimopokpnaaGreatDoor
open Go.RowKit
set_option maxRecDepth 100000
set_option maxHeartbeats 0
set_option linter.unusedVariables false
def replC (c:Nat):Nat:=if c=120 then 97 else if c=121 then 98 else if c=122 then 99 else c
def six:List Value:=[.string ⟨#[120]⟩,.string ⟨#[97]⟩,.string ⟨#[121]⟩,.string ⟨#[98]⟩,.string ⟨#[122]⟩,.string ⟨#[99]⟩]
theorem Blk.setAt {t:Nat} {e:TypeId} {w:World} {cs:List Value} (h:Blk t (.cells cs.toArray e) w) (k:Nat) (v:Value):Blk t (.cells (cs.set k v).toArray e) (w.setCell ⟨t,k,none⟩ v):=by
 have h':w.heap[t]?=_:=h
 show (w.setCell ⟨t,k,none⟩ v).heap[t]?=_
 simp [World.setCell,Array.getElem?_modify,h']
theorem wrap_u8 (k:Nat) (h:k<256):IntKind.u8.wrap (k:Int)=k:=by
 simp [IntKind.wrap,IntKind.bits,IntKind.signed]
 omega
theorem zeros_len:Tryz.zeroCells277.toList.length=256:=by kernel_rfl
def Upto (k:Nat) (cs:List Value):Prop:=cs.length=256∧∀ j,j<k→cs[j]?=some (.int .u8 j)
theorem Upto.next {k:Nat} {cs:List Value} (h:Upto k cs) (hk:k<256):Upto (k+1) (cs.set k (.int .u8 k)):=by
 refine ⟨by simpa using h.1,fun j hj=>?_⟩
 rcases Nat.lt_or_ge j k with h1|h1
 ·rw [List.getElem?_set_ne (by omega)]
  exact h.2 j h1
 ·obtain rfl:j=k:=by omega
  rw [List.getElem?_set_self (by rw [h.1];exact hk)]
def TabR (cs:List Value):Prop:=cs.length=256∧∀ j,j<256→cs[j]?=some (.int .u8 (replC j:Nat))
theorem Upto.tab {cs:List Value} (h:Upto 256 cs):TabR (((cs.set 122 (.int .u8 99)).set 121 (.int .u8 98)).set 120 (.int .u8 97)):=by
 refine ⟨by simpa using h.1,fun j hj=>?_⟩
 have hl:=h.1
 simp only [List.getElem?_set,List.length_set]
 unfold replC
 split
 ·subst_vars;simp [hl]
 ·split
  ·subst_vars;simp [hl]
  ·split
   ·subst_vars;simp [hl]
   ·rw [h.2 j hj]
    rw [if_neg (by omega),if_neg (by omega),if_neg (by omega)]
theorem build_any (g o cap:Nat) (d0 d1 d2:Value) (w:World) (hK:Blk g (.cells #[d0,d1,d2,.nilIface,.slice (some ⟨o,0,none⟩) 6 cap] 254) w) (hS:∀ j,j<6→w.cell? ⟨o,j,none⟩=six[j]?) :
  Calls Tryz.prog 252 #[.pointer (some ⟨g,0,none⟩)] w (RetV fun v w'=>∃ cs,v=.iface 278 (.pointer (some ⟨w.heap.size,0,none⟩))∧Below w.heap.size w w'∧Blk w.heap.size (.cells cs.toArray 277) w'∧TabR cs):=by
 have hgl:=hK.lt
 have hol:o<w.heap.size:=World.block_lt_of_cell? w _ ((hS 0 (by omega)).trans rfl)
 have hst:=run_storeCells_new (P:=Tryz.prog) w 277 Tryz.zeroCells277 Tryz.zeroCells277 (by kernel_rfl) rfl (by kernel_rfl)
 have c4:=hK.cell 4
 have s0:=hS 0 (by omega)
 have s1:=hS 1 (by omega)
 have s2:=hS 2 (by omega)
 have s3:=hS 3 (by omega)
 have s4:=hS 4 (by omega)
 have s5:=hS 5 (by omega)
 simp only [six,List.getElem?_cons_zero,List.getElem?_cons_succ] at s0 s1 s2 s3 s4 s5
 clear hS
 go_enter Tryz.func252,Tryz.ntmps252
 go_wp2
 go_loop [4,5] (fun b i=>b=.bool true∧(i=.int .i64 0∨i=.int .i64 2∨i=.int .i64 4∨i=.int .i64 6)) (fun _ i=>6-(intOf i).toNat)
 case atStart=>exact ⟨rfl,.inl rfl⟩
 case round=>
  obtain ⟨rfl,rfl|rfl|rfl|rfl⟩:=hrel
  ·go_wp2
   go_round
   case rel=>exact ⟨rfl,.inr (.inl rfl)⟩
   case measure=>simp [intOf]
  ·go_wp2
   go_round
   case rel=>exact ⟨rfl,.inr (.inr (.inl rfl))⟩
   case measure=>simp [intOf]
  ·go_wp2
   go_round
   case rel=>exact ⟨rfl,.inr (.inr (.inr rfl))⟩
   case measure=>simp [intOf]
  ·go_wp2
   go_loopw [61] (fun i wr=>∃ (k:Nat) (cs:List Value),k≤256∧i=.int .i64 k∧Hid (Upto k cs∧Blk w.heap.size (.cells cs.toArray 277) wr∧Below w.heap.size w wr)) (fun i _=>256-(intOf i).toNat)
   case atStart=>
    refine ⟨0,Tryz.zeroCells277.toList,by omega,rfl,H_ ⟨⟨zeros_len,fun j hj=>by omega⟩,?_,(B_ _ _).alloc (le_ _) _⟩⟩
    exact Blk.new w _
   case round=>
    obtain ⟨k,cs,hk,rfl,HI⟩:=hrel
    by_cases hlt:k<256
    ·have hu:=wrap_u8 k hlt
     have hk1:(k:Int)<256:=by omega
     have hcell:∃ x,wr.cell? ⟨w.heap.size,k,none⟩=some x:=by
      have h:=HI.out.2.1.cell k
      have hl:k<cs.length:=by rw [HI.out.1.1];exact hlt
      exact ⟨cs[k],by rw [h];simp [hl]⟩
     obtain ⟨x,hcell⟩:=hcell
     have hfz:=HI.out.2.1.free k
     go_wp2
     go_roundw
     case rel=>exact ⟨k+1,cs.set k (.int .u8 k),by omega,by go_num,H_ ⟨HI.out.1.next hlt,HI.out.2.1.setAt k _,HI.out.2.2.setCell (p:=⟨w.heap.size,k,none⟩) (le_ _) _⟩⟩
     case measure=>simp [intOf];omega
    ·obtain rfl:k=256:=by omega
     obtain ⟨hi1,hi2,hi3⟩:=HI.out
     have HR:=H_ (And.intro hi1 hi3)
     have s0':=(hi3.cell (p:=⟨o,0,none⟩) hol).trans s0
     have s1':=(hi3.cell (p:=⟨o,1,none⟩) hol).trans s1
     have s2':=(hi3.cell (p:=⟨o,2,none⟩) hol).trans s2
     have s3':=(hi3.cell (p:=⟨o,3,none⟩) hol).trans s3
     have s4':=(hi3.cell (p:=⟨o,4,none⟩) hol).trans s4
     have s5':=(hi3.cell (p:=⟨o,5,none⟩) hol).trans s5
     have hne:o≠w.heap.size:=by omega
     have hne2:w.heap.size≠o:=by omega
     clear s0 s1 s2 s3 s4 s5 c4 hst
     have h122:∃ x,wr.cell? ⟨w.heap.size,122,none⟩=some x:=⟨_,(hi2.cell 122).trans (by simpa using hi1.2 122 (by omega))⟩
     have h121:∃ x,wr.cell? ⟨w.heap.size,121,none⟩=some x:=⟨_,(hi2.cell 121).trans (by simpa using hi1.2 121 (by omega))⟩
     have h120:∃ x,wr.cell? ⟨w.heap.size,120,none⟩=some x:=⟨_,(hi2.cell 120).trans (by simpa using hi1.2 120 (by omega))⟩
     obtain ⟨x2,h122⟩:=h122
     obtain ⟨x1,h121⟩:=h121
     obtain ⟨x0,h120⟩:=h120
     have g2:=hi2.free 122
     have g1:=hi2.free 121
     have g0:=hi2.free 120
     have HT:=H_ (And.intro hi1.tab (And.intro (((hi2.setAt 122 (.int .u8 99)).setAt 121 (.int .u8 98)).setAt 120 (.int .u8 97)) (((hi3.setCell (p:=⟨w.heap.size,122,none⟩) (le_ _) (.int .u8 99)).setCell (p:=⟨w.heap.size,121,none⟩) (le_ _) (.int .u8 98)).setCell (p:=⟨w.heap.size,120,none⟩) (le_ _) (.int .u8 97))))
     have b122:∀ hh:0<(ByteArray.mk #[122]).size,((ByteArray.mk #[122])[0]'hh).toNat=122:=fun _=>rfl
     have b121:∀ hh:0<(ByteArray.mk #[121]).size,((ByteArray.mk #[121])[0]'hh).toNat=121:=fun _=>rfl
     have b120:∀ hh:0<(ByteArray.mk #[120]).size,((ByteArray.mk #[120])[0]'hh).toNat=120:=fun _=>rfl
     have b99:∀ hh:0<(ByteArray.mk #[99]).size,((ByteArray.mk #[99])[0]'hh).toNat=99:=fun _=>rfl
     have b98:∀ hh:0<(ByteArray.mk #[98]).size,((ByteArray.mk #[98])[0]'hh).toNat=98:=fun _=>rfl
     have b97:∀ hh:0<(ByteArray.mk #[97]).size,((ByteArray.mk #[97])[0]'hh).toNat=97:=fun _=>rfl
     clear hi1 hi2 hi3 HI HR
     go_wp2
     go_loopw [8] (fun i wx=>(i=.int .i64 4∧wx=wr)∨(i=.int .i64 2∧wx=(wr.setCell ⟨w.heap.size,122,none⟩ (.int .u8 99)))∨(i=.int .i64 0∧wx=((wr.setCell ⟨w.heap.size,122,none⟩ (.int .u8 99)).setCell ⟨w.heap.size,121,none⟩ (.int .u8 98)))∨(i=.int .i64 (-2)∧wx=(((wr.setCell ⟨w.heap.size,122,none⟩ (.int .u8 99)).setCell ⟨w.heap.size,121,none⟩ (.int .u8 98)).setCell ⟨w.heap.size,120,none⟩ (.int .u8 97)))) (fun i _=>(intOf i+2).toNat)
     case atStart=>exact .inl ⟨rfl,rfl⟩
     case round=>
      rcases hrel with ⟨rfl,rfl⟩|⟨rfl,rfl⟩|⟨rfl,rfl⟩|⟨rfl,rfl⟩
      ·go_wp2
       go_roundw
       case rel=>simp
       case measure=>simp [intOf]
      ·go_wp2
       go_roundw
       case rel=>simp
       case measure=>simp [intOf]
      ·go_wp2
       go_roundw
       case rel=>simp
       case measure=>simp [intOf]
      ·go_wp2
       go_ret
       exact RetV.mk _ rfl ⟨_,rfl,HT.out.2.2,HT.out.2.1,HT.out.1⟩
theorem disable (w:World):(callFunc 284 #[]).run Tryz.prog w=.ok (.value (.tuple #[])) w:=run_call_mark0 Tryz.func284 (by kernel_rfl) (by kernel_rfl) (by kernel_rfl) .disable (by kernel_rfl) w
theorem enable (w:World):(callFunc 286 #[]).run Tryz.prog w=.ok (.value (.tuple #[])) w:=run_call_mark0 Tryz.func286 (by kernel_rfl) (by kernel_rfl) (by kernel_rfl) .enable (by kernel_rfl) w
theorem acquire (a:Addr) (w:World):(callFunc 287 #[.pointer (some a)]).run Tryz.prog w=.ok (.value (.tuple #[])) w:=run_call_marked Tryz.func287 (by kernel_rfl) (by kernel_rfl) (by kernel_rfl) .acquire (by kernel_rfl) a w
theorem releaseMerge (a:Addr) (w:World):(callFunc 289 #[.pointer (some a)]).run Tryz.prog w=.ok (.value (.tuple #[])) w:=run_call_marked Tryz.func289 (by kernel_rfl) (by kernel_rfl) (by kernel_rfl) .releaseMerge (by kernel_rfl) a w
theorem store_deferred (a:Addr) (x:Value) (u:FrameMode) (w:World) (hc:w.cell? a=some x) (hz:w.frozen? a=false) :
  CallsD Tryz.prog 260 #[.pointer (some a),.bool true] u w fun e u' w'=>u'=u∧(e=.returned (.tuple #[])∧w'=w.drew.setCell a (.int .u32 1)):=by
 have hc':w.drew.cell? a=some x:=by go_simp
 have hz':w.drew.frozen? a=false:=by go_simp
 have hst:=run_call_store (P:=Tryz.prog) Tryz.func275 (by kernel_rfl) (by kernel_rfl) (by kernel_rfl) (by kernel_rfl) (k:=.u32) (y:=1) hc' hz'
 go_enter_d Tryz.func260,Tryz.ntmps260
 go_wp2
 go_region_calls
 all_goals (go_end0;exact ⟨rfl,rfl⟩)
theorem unlock_deferred (a:Addr) (u:FrameMode) (w:World) (hc:w.cell? a=some (.int .i32 1)) (hz:w.frozen? a=false) :
  CallsD Tryz.prog 259 #[.pointer (some a)] u w fun e u' w'=>u'=u∧(e=.returned (.tuple #[])∧w'=w.setCell a (.int .i32 0)):=by
 have hd:=disable
 have he:=enable
 have hr:=releaseMerge
 have hadd:=run_call_add (P:=Tryz.prog) Tryz.func290 (by kernel_rfl) (by kernel_rfl) (by kernel_rfl) .i32 (by kernel_rfl) (y:=-1) (s:=0) hc hz (by simp [go_sem];rfl)
 have hcv:=run_convert_to_unsafe (P:=Tryz.prog) (src:=310) (dst:=218) Tryz.underlying310 Tryz.underlying218 (by kernel_rfl) hc
 go_enter_d Tryz.func259,Tryz.ntmps259
 go_wp2
 go_end0
 go_wp2
 go_end0
 exact ⟨rfl,rfl⟩
theorem lock_free (a:Addr) (w:World) (hc:w.cell? a=some (.int .i32 0)) (hz:w.frozen? a=false) :
  Calls Tryz.prog 258 #[.pointer (some a)] w fun e w'=>e=.returned (.tuple #[])∧w'=w.setCell a (.int .i32 1):=by
 have hd:=disable
 have he:=enable
 have ha:=acquire
 have hcas:=run_call_cas_hit (P:=Tryz.prog) Tryz.func285 (by kernel_rfl) (by kernel_rfl) (by kernel_rfl) .i32 (by kernel_rfl) (y:=1) hc hz
 have hc':(w.setCell a (.int .i32 1)).cell? a=some (.int .i32 1):=World.cell?_setCell_same w a _ hc
 have hcv:=run_convert_to_unsafe (P:=Tryz.prog) (src:=310) (dst:=218) Tryz.underlying310 Tryz.underlying218 (by kernel_rfl) hc'
 go_enter Tryz.func258,Tryz.ntmps258
 go_wp2
 first | go_end0 | (simp only [Exit.inBlock,Exit.then];refine bodyPost_ret (results_none rfl _ _ _) rfl ?_) | refine bodyPost_ret (results_none rfl _ _ _) rfl ?_
 go_wp2
 go_end0
 exact ⟨rfl,rfl⟩
def Built (g:Nat) (d0 d1 d2:Value) (w w':World):Prop:=
 ∃ (t:Nat) (cs:List Value),w.heap.size≤t∧Blk g (.cells #[d0,d1,d2,.iface 278 (.pointer (some ⟨t,0,none⟩)),.slice none 0 0] 254) w' ∧
  Blk t (.cells cs.toArray 277) w'∧TabR cs∧Outside g (g+1) w w'
theorem Blk.set34 {g:Nat} {e:TypeId} {w:World} {x0 x1 x2 x3 x4:Value} (h:Blk g (.cells #[x0,x1,x2,x3,x4] e (0,0)) w) (c d:Value) :
  Blk g (.cells #[x0,x1,x2,c,d] e (0,0)) ((w.setCell ⟨g,3,none⟩ c).setCell ⟨g,4,none⟩ d):=by
 have h':w.heap[g]?=_:=h
 show ((w.setCell ⟨g,3,none⟩ c).setCell ⟨g,4,none⟩ d).heap[g]?=_
 simp [World.setCell,Array.getElem?_modify,h']
theorem Outside.set34 (g:Nat) (w:World) (c d:Value):Outside g (g+1) w ((w.setCell ⟨g,3,none⟩ c).setCell ⟨g,4,none⟩ d):=
 ((Outside.refl _ _ _).setCell (p:=⟨g,3,none⟩) (le_ _) (Nat.lt_succ_self _) _).setCell (p:=⟨g,4,none⟩) (le_ _) (Nat.lt_succ_self _) _
theorem buildOnce_any (g o cap:Nat) (d0 d1 d2:Value) (w:World) (hK:Blk g (.cells #[d0,d1,d2,.nilIface,.slice (some ⟨o,0,none⟩) 6 cap] 254) w) (hS:∀ j,j<6→w.cell? ⟨o,j,none⟩=six[j]?) :
  Calls Tryz.prog 239 #[.pointer (some ⟨g,0,none⟩)] w fun e w'=>e=.returned (.tuple #[])∧Built g d0 d1 d2 w w':=by
 have hlt:=hK.lt
 go_enter Tryz.func239,Tryz.ntmps239
 go_wp2_with fail
 refine (build_any g o cap d0 d1 d2 w hK hS).mono ?_
 rintro e w1 ⟨v,rfl,cs,rfl,hb,ht,hcs⟩
 have hK1:=hK.below hb hlt
 have c3:=hK1.cell 3
 have c4:=hK1.cell 4
 have f3:=hK1.free 3
 have f4:=hK1.free 4
 obtain ⟨wz,hwz⟩:∃ wz,wz=((w1.setCell ⟨g,3,none⟩ (.iface 278 (.pointer (some ⟨w.heap.size,0,none⟩)))).setCell ⟨g,4,none⟩ (.slice none 0 0)):=⟨_,rfl⟩
 have HZ:=H_ (hK1.set34 (.iface 278 (.pointer (some ⟨w.heap.size,0,none⟩))) (.slice none 0 0))
 have HO:=H_ (Outside.set34 g w1 (.iface 278 (.pointer (some ⟨w.heap.size,0,none⟩))) (.slice none 0 0))
 rw [←hwz] at HZ HO
 have HT:=H_ (ht.outside HO.out (.inr (by omega)))
 have HB:=H_ hb
 have HC:=H_ hcs
 clear hb ht hcs hK hK1 hS
 go_wp2
 simp only [←hwz]
 go_end0
 exact ⟨rfl,_,cs,le_ _,HZ.out,HT.out,HC.out,(Outside.of_below HB.out (le_ _)).trans HO.out⟩
theorem Blk.set01 {g:Nat} {e:TypeId} {w:World} {x0 x1 x2 x3 x4:Value} (h:Blk g (.cells #[x0,x1,x2,x3,x4] e (0,0)) w) (c d:Value) :
  Blk g (.cells #[c,d,x2,x3,x4] e (0,0)) ((w.drew.setCell ⟨g,0,none⟩ c).setCell ⟨g,1,none⟩ d):=by
 have h':w.drew.heap[g]?=_:=h
 show ((w.drew.setCell ⟨g,0,none⟩ c).setCell ⟨g,1,none⟩ d).heap[g]?=_
 simp [World.setCell,Array.getElem?_modify,h']
theorem Blk.set1 {g:Nat} {e:TypeId} {w:World} {x0 x1 x2 x3 x4:Value} (h:Blk g (.cells #[x0,x1,x2,x3,x4] e (0,0)) w) (d:Value) :
  Blk g (.cells #[x0,d,x2,x3,x4] e (0,0)) (w.setCell ⟨g,1,none⟩ d):=by
 have h':w.heap[g]?=_:=h
 show (w.setCell ⟨g,1,none⟩ d).heap[g]?=_
 simp [World.setCell,Array.getElem?_modify,h']
theorem Outside.set01 (g:Nat) (w:World) (c d:Value):Outside g (g+1) w ((w.drew.setCell ⟨g,0,none⟩ c).setCell ⟨g,1,none⟩ d):=
 (((Outside.of_below (B_ w.heap.size w).drew (le_ _))).setCell (p:=⟨g,0,none⟩) (le_ _) (Nat.lt_succ_self _) _).setCell (p:=⟨g,1,none⟩) (le_ _) (Nat.lt_succ_self _) _
abbrev Done (g:Nat) (d2:Value) (w w':World):Prop:=Built g (.int .u32 1) (.int .i32 0) d2 w w'
theorem slow_any (g o cap:Nat) (d2:Value) (w:World) (hne:o≠g) (hK:Blk g (.cells #[.int .u32 0,.int .i32 0,d2,.nilIface,.slice (some ⟨o,0,none⟩) 6 cap] 254) w) (hS:∀ j,j<6→w.cell? ⟨o,j,none⟩=six[j]?) :
  Calls Tryz.prog 251 #[.pointer (some ⟨g,0,none⟩),.func (.func 239) #[.pointer (some ⟨g,0,none⟩)] #[]] w fun e w'=>e=.returned (.tuple #[])∧Done g d2 w w':=by
 have c1:=hK.cell 1
 have f1:=hK.free 1
 have HK:=H_ hK
 have HS:=H_ hS
 obtain ⟨w1,hw1⟩:∃ w1,w1=w.setCell ⟨g,1,none⟩ (.int .i32 1):=⟨_,rfl⟩
 have hK1:Blk g (.cells #[.int .u32 0,.int .i32 1,d2,.nilIface,.slice (some ⟨o,0,none⟩) 6 cap] 254) w1:=by rw [hw1];exact hK.set1 _
 have hS1:∀ j,j<6→w1.cell? ⟨o,j,none⟩=six[j]?:=fun j hj=>by
  rw [hw1]
  exact (World.cell?_setCell_other _ _ _ _ (by intro h;injection h with h _;exact hne h.symm)).trans (hS j hj)
 have ho1:Outside g (g+1) w w1:=by rw [hw1];exact (Outside.refl _ _ _).setCell (p:=⟨g,1,none⟩) (le_ _) (Nat.lt_succ_self _) _
 have c0:=hK1.cell 0
 have hl:=run_call_load (P:=Tryz.prog) Tryz.func257 (by kernel_rfl) (by kernel_rfl) (by kernel_rfl) .u32 (by kernel_rfl) (w:=w1) (a:=⟨g,0,none⟩) (x:=0) c0
 have hnot:∀ (x:Bool) (w:World),(Op.unary .not (.bool x)).run Tryz.prog w=.ok (.bool (!x)) w:=fun _ _=>rfl
 have HK1:=H_ hK1
 have HS1:=H_ hS1
 have HO1:=H_ ho1
 have HW1:=H_ hw1
 have hsz1:w1.heap.size=w.heap.size:=by rw [hw1];simp [World.setCell]
 clear hK hS hK1 hS1 ho1 hw1 c0
 go_enter_defers Tryz.func251,Tryz.ntmps251
 go_wp2_with fail
 refine (lock_free ⟨g,1,none⟩ _ c1 f1).mono ?_
 rintro e w' ⟨rfl,rfl⟩
 simp only [←HW1.out]
 clear c1 f1
 go_wp2_with (first | (go_at_call 250;go_in) | (go_at_call 239;refine (buildOnce_any g o cap _ _ _ _ HK1.out HS1.out).mono ?_;rintro e w2 ⟨rfl,t,cs,h1,h2,h3,h4,h5⟩))
 have d0:=h2.cell 0
 have z0:=h2.free 0
 have d1:(w2.drew.setCell ⟨g,0,none⟩ (.int .u32 1)).cell? ⟨g,1,none⟩=some (.int .i32 1):=(World.cell?_setCell_other _ _ _ _ (by simp)).trans (h2.cell 1)
 have z1:(w2.drew.setCell ⟨g,0,none⟩ (.int .u32 1)).frozen? ⟨g,1,none⟩=false:=by
  rw [World.frozen?_setCell]
  exact h2.free 1
 refine leaves_cons (f:=260) (args:=#[.pointer (some ⟨g,0,none⟩),.bool true]) (by simp) (by simp [go_sem]) ?_
 refine (store_deferred ⟨g,0,none⟩ (.int .u32 0) .returning _ d0 z0).mono ?_
 rintro e u' w'' ⟨rfl,rfl,rfl⟩
 refine leaves_cons (f:=259) (args:=#[.pointer (some ⟨g,1,none⟩)]) (by simp [settle]) (by simp [go_sem]) ?_
 refine (unlock_deferred ⟨g,1,none⟩ _ _ d1 z1).mono ?_
 rintro e u' w'' ⟨rfl,rfl,rfl⟩
 have HZ:=H_ (h2.set01 (.int .u32 1) (.int .i32 0))
 have HOZ:=H_ (Outside.set01 g w2 (.int .u32 1) (.int .i32 0))
 have hgt:g<t:=by have:=HK.out.lt;omega
 have HF:=H_ (show Done g d2 w ((w2.drew.setCell ⟨g,0,none⟩ (.int .u32 1)).setCell ⟨g,1,none⟩ (.int .i32 0)) from ⟨t,cs,by omega,HZ.out,h3.outside HOZ.out (.inr (by omega)),h4,(HO1.out.trans h5).trans HOZ.out⟩)
 clear h2 h3 h4 h5 HZ HOZ d0 d1 z0 z1
 simp [Leaves,settle,results,Tryz.results251]
 exact HF.out
theorem do_first (g o cap:Nat) (d2:Value) (w:World) (hne:o≠g) (hK:Blk g (.cells #[.int .u32 0,.int .i32 0,d2,.nilIface,.slice (some ⟨o,0,none⟩) 6 cap] 254) w) (hS:∀ j,j<6→w.cell? ⟨o,j,none⟩=six[j]?) :
  Calls Tryz.prog 238 #[.pointer (some ⟨g,0,none⟩),.func (.func 239) #[.pointer (some ⟨g,0,none⟩)] #[]] w fun e w'=>e=.returned (.tuple #[])∧Done g d2 w w':=by
 have c0:=hK.cell 0
 have hl:=run_call_load (P:=Tryz.prog) Tryz.func257 (by kernel_rfl) (by kernel_rfl) (by kernel_rfl) .u32 (by kernel_rfl) (w:=w) (a:=⟨g,0,none⟩) (x:=0) c0
 have hnot:∀ (x:Bool) (w:World),(Op.unary .not (.bool x)).run Tryz.prog w=.ok (.bool (!x)) w:=fun _ _=>rfl
 have HK:=H_ hK
 have HS:=H_ hS
 clear hK hS c0
 go_enter Tryz.func238,Tryz.ntmps238
 go_wp2_with (first | (go_at_call 250;go_in) | (go_at_call 251;refine (slow_any g o cap d2 w hne HK.out HS.out).mono ?_;rintro e w' ⟨rfl,hd⟩))
 go_end0
 exact ⟨rfl,hd⟩
def repl8 (c:UInt8):UInt8:=UInt8.ofNat (replC c.toNat)
theorem replC_lt {c:Nat} (h:c<256):replC c<256:=by
 unfold replC
 split
 ·omega
 ·split
  ·omega
  ·split<;>omega
theorem repl8_nat (c:UInt8):(repl8 c).toNat=replC c.toNat:=by
 have h:replC c.toNat<256:=replC_lt c.toNat_lt
 simp [repl8,UInt8.toNat_ofNat']
 omega
theorem repl8_same {c:UInt8} (h:replC c.toNat=c.toNat):repl8 c=c:=by
 apply UInt8.toNat_inj.1
 rw [repl8_nat,h]
def Buf (b:Nat) (txt:List UInt8) (i:Nat) (w:World):Prop:=
 ∃ cs lo hi,w.heap[b]?=some (.cells cs 5 (lo,hi))∧txt.length≤cs.size∧cs.size≤lo∧∀ j (h:j<txt.length),cs[j]?=some (.int .u8 ((if j<i then repl8 txt[j] else txt[j]).toNat:Nat))
theorem Buf.cell {b i:Nat} {txt:List UInt8} {w:World} (h:Buf b txt i w) (j:Nat) (hj:j<txt.length):w.cell? ⟨b,j,none⟩=some (.int .u8 ((if j<i then repl8 txt[j] else txt[j]).toNat:Nat)):=by
 obtain ⟨cs,lo,hi,h1,_,_,h2⟩:=h
 rw [World.cell?,h1]
 exact h2 j hj
theorem Buf.free {b i:Nat} {txt:List UInt8} {w:World} (h:Buf b txt i w) (j:Nat) (hj:j<txt.length):w.frozen? ⟨b,j,none⟩=false:=by
 obtain ⟨cs,lo,hi,h1,h2,h3,_⟩:=h
 simp only [World.frozen?,h1]
 simp
 omega
theorem Buf.next {b i:Nat} {txt:List UInt8} {w:World} (h:Buf b txt i w) (hi:i<txt.length):Buf b txt (i+1) (w.setCell ⟨b,i,none⟩ (.int .u8 (replC txt[i].toNat:Nat))):=by
 obtain ⟨cs,lo,h',h1,h2,h3,h4⟩:=h
 refine ⟨cs.setIfInBounds i (.int .u8 (replC txt[i].toNat:Nat)),lo,h',?_,by simpa using h2,by simpa using h3,fun j hj=>?_⟩
 ·simp [World.setCell,Array.getElem?_modify,h1]
 ·by_cases hji:j=i
  ·subst hji
   rw [Array.getElem?_setIfInBounds_self_of_lt (by omega),if_pos (by omega),repl8_nat]
  ·rw [Array.getElem?_setIfInBounds_ne (by omega),h4 j hj]
   by_cases hlt:j<i
   ·rw [if_pos hlt,if_pos (by omega)]
   ·rw [if_neg hlt,if_neg (by omega)]
theorem Buf.skip {b i:Nat} {txt:List UInt8} {w:World} (h:Buf b txt i w) (hi:i<txt.length) (hs:repl8 txt[i]=txt[i]):Buf b txt (i+1) w:=by
 obtain ⟨cs,lo,h',h1,h2,h3,h4⟩:=h
 refine ⟨cs,lo,h',h1,h2,h3,fun j hj=>?_⟩
 rw [h4 j hj]
 by_cases hji:j=i
 ·subst hji
  rw [if_neg (by omega),if_pos (by omega),hs]
 ·by_cases hlt:j<i
  ·rw [if_pos hlt,if_pos (by omega)]
  ·rw [if_neg hlt,if_neg (by omega)]
theorem Buf.new (w:World) (txt:List UInt8) (i:Nat) (hs:∀ j (h:j<txt.length),j<i→repl8 txt[j]=txt[j]) :
  Buf w.heap.size txt i (w.drew.alloc (.cells (bytesRow ⟨txt.toArray⟩ (grownCap w txt.length 0 5)) 5 ((bytesRow ⟨txt.toArray⟩ (grownCap w txt.length 0 5)).size,(bytesRow ⟨txt.toArray⟩ (grownCap w txt.length 0 5)).size+1))):=by
 refine ⟨_,_,_,heap_alloc_new w.drew _,?_,le_ _,fun j hj=>?_⟩
 ·simp [bytesRow]
 ·have h1:(bytesRow ⟨txt.toArray⟩ (grownCap w txt.length 0 5))[j]?=some (.int .u8 (txt[j].toNat:Nat)):=by
   simp [bytesRow,Array.getElem?_append,hj]
  rw [h1]
  by_cases hlt:j<i
  ·rw [if_pos hlt,hs j hj hlt]
  ·rw [if_neg hlt]
def Same8 (txt:List UInt8) (i:Nat):Prop:=∀ j (h:j<txt.length),j<i→repl8 txt[j]=txt[j]
theorem map_same {txt:List UInt8} (h:Same8 txt txt.length):txt.map repl8=txt:=by
 apply List.ext_getElem
 ·simp
 ·intro j h1 h2
  simpa using h j h2 h2
theorem strOfNums_map (txt:List UInt8):strOfNums (txt.map fun c=>((repl8 c).toNat:Int))=⟨(txt.map repl8).toArray⟩:=by
 unfold strOfNums
 congr 1
 simp [List.map_map,Function.comp_def]
theorem bReplace_any (t:Nat) (cs:List Value) (txt:List UInt8) (w:World) (hT:Blk t (.cells cs.toArray 277) w) (hC:TabR cs) (hl:txt.length≤199) :
    Calls Tryz.prog 330 #[.pointer (some ⟨t,0,none⟩),.string ⟨txt.toArray⟩] w fun e w'=>e=.returned (.string ⟨(txt.map repl8).toArray⟩)∧Below w.heap.size w w':=by
  have HT:=H_ hT
  have HC:=H_ hC
  have htl:=hT.lt
  clear hT hC
  have hn0:∀ w:World,(binOp .eql 40 (.slice none 0 0) (.slice none 0 0)).run Tryz.prog w=.ok (.bool true) w:=fun w=>run_eql_slice_nil (P:=Tryz.prog) w 40 5 none 0 0 Tryz.underlying40
  have hn1:∀ (a:Addr) (n c:Nat) (w:World),(binOp .eql 40 (.slice (some a) n c) (.slice none 0 0)).run Tryz.prog w=.ok (.bool false) w:=fun a n c w=>run_eql_slice_nil (P:=Tryz.prog) w 40 5 (some a) n c Tryz.underlying40
  go_enter Tryz.func330,Tryz.ntmps330
  go_wp2
  go_loopw [5,6] (fun s i wr=>∃ k:Nat,k≤txt.length∧i=.int .i64 k∧Hid (Below w.heap.size w wr) ∧
    ((s=.slice none 0 0∧Hid (Same8 txt k))∨(∃ b cap,s=.slice (some ⟨b,0,none⟩) txt.length cap∧txt.length≤cap∧w.heap.size≤b∧Hid (Buf b txt k wr)))) (fun _ i _=>txt.length-(intOf i).toNat)
  case atStart=>exact ⟨0,by omega,rfl,H_ (B_ _ _),.inl ⟨rfl,H_ (fun j h h2=>by omega)⟩⟩
  case round=>
    obtain ⟨k,hk,rfl,HB,hs⟩:=hrel
    by_cases hlt:k<txt.length
    · obtain ⟨c,hc⟩:∃ c,c=txt[k]:=⟨_,rfl⟩
      have hget:∀ hh:k<(ByteArray.mk txt.toArray).size,(ByteArray.mk txt.toArray)[k]'hh=c:=fun _=>hc.symm
      have hcl:c.toNat<256:=c.toNat_lt
      have hcl2:(c.toNat:Int)<256:=by omega
      have htab:wr.cell? ⟨t,c.toNat,none⟩=some (.int .u8 (replC c.toNat:Nat)):=by
        have h:=((HT.out.below HB.out htl).cell c.toNat).trans (by simpa using HC.out.2 c.toNat hcl)
        exact h
      have HCC:=H_ hc
      clear hc
      cases hq:(((replC c.toNat:Nat):Int) !=(c.toNat:Int))
      · have HS:=H_ (show repl8 txt[k]=txt[k] by
          have h:((replC c.toNat:Nat):Int)=c.toNat:=by simpa using hq
          rw [←HCC.out]
          exact repl8_same (by omega))
        rcases hs with ⟨rfl,HN⟩|⟨b,cap,rfl,hcap,hb,HN⟩
        · go_wp2
          go_roundw
          case rel=>
            refine ⟨k+1,by omega,by go_num,HB,.inl ⟨rfl,H_ fun j h h2=>?_⟩⟩
            rcases Nat.lt_or_ge j k with h3|h3
            · exact HN.out j h h3
            · obtain rfl:j=k:=by omega
              exact HS.out
          case measure=>simp [intOf];omega
        · go_wp2
          go_roundw
          case rel=>exact ⟨k+1,by omega,by go_num,HB,.inr ⟨b,cap,rfl,hcap,hb,H_ (HN.out.skip hlt HS.out)⟩⟩
          case measure=>simp [intOf];omega
      · rcases hs with ⟨rfl,HN⟩ | ⟨b,cap,rfl,hcap,hb,HN⟩
        · have hcv:=run_bytes_of_string (P:=Tryz.prog) wr 9 40 5 ⟨txt.toArray⟩ Tryz.underlying9 Tryz.underlying40 Tryz.underlying5
          have hge:=grownCap_ge wr txt.length 0 5
          have hsz:(ByteArray.mk txt.toArray).size=txt.length:=by simp [ByteArray.size]
          rw [hsz] at hcv
          obtain ⟨cp,hcp⟩:∃ cp,cp=grownCap wr txt.length 0 5:=⟨_,rfl⟩
          obtain ⟨wn,hwn⟩:∃ wn,wn=(wr.drew.alloc (.cells (bytesRow ⟨txt.toArray⟩ (grownCap wr txt.length 0 5)) 5 ((bytesRow ⟨txt.toArray⟩ (grownCap wr txt.length 0 5)).size,(bytesRow ⟨txt.toArray⟩ (grownCap wr txt.length 0 5)).size+1))):=⟨_,rfl⟩
          have HNEW:=H_ (Buf.new wr txt k HN.out)
          have hbn:Below wr.heap.size wr wn:=by rw [hwn];exact (B_ _ _).drew.alloc (le_ _) _
          rw [←hwn] at hcv HNEW
          rw [←hcp] at hcv hge
          clear hwn hcp
          have htab2:wn.cell? ⟨t,c.toNat,none⟩=some (.int .u8 (replC c.toNat:Nat)):=(hbn.cell (p:=⟨t,c.toNat,none⟩) (Nat.lt_of_lt_of_le htl HB.out.size)).trans htab
          have hbc:=HNEW.out.cell k hlt
          have hbf:=HNEW.out.free k hlt
          have HBN:=H_ (HB.out.trans (hbn.mono HB.out.size))
          have hws:=HB.out.size
          clear hbn
          go_wp2
          go_roundw
          case rel=>
            refine ⟨k+1,by omega,by go_num,H_ (HBN.out.setCell (p:=⟨wr.heap.size,k,none⟩) hws _),.inr ⟨wr.heap.size,cp,rfl,hge,hws,H_ ?_⟩⟩
            have h:=HNEW.out.next hlt
            rw [←HCC.out] at h
            exact h
          case measure=>simp [intOf];omega
        · have hbc:=HN.out.cell k hlt
          have hbf:=HN.out.free k hlt
          go_wp2
          go_roundw
          case rel=>
            refine ⟨k+1,by omega,by go_num,H_ (HB.out.setCell (p:=⟨b,k,none⟩) hb _),.inr ⟨b,cap,rfl,hcap,hb,H_ ?_⟩⟩
            have h:=HN.out.next hlt
            rw [←HCC.out] at h
            exact h
          case measure=>simp [intOf];omega
    · obtain rfl:k=txt.length:=by omega
      rcases hs with ⟨rfl,HN⟩|⟨b,cap,rfl,hcap,hb,HN⟩
      · have HM:=H_ (map_same HN.out)
        go_wp2
        go_ret
        exact ⟨by rw [HM.out];rfl,HB.out⟩
      · have hcv := run_convert_bytes_arg (P := Tryz.prog) (w := wr) 40 5 Tryz.underlying40 Tryz.underlying5 b 0 txt.length cap (txt.map fun c => ((repl8 c).toNat : Int)) (by simp) (by
          intro j hj
          rw [Nat.zero_add,HN.out.cell j hj,if_pos hj]
          simp [List.getD,hj]) 9 Tryz.underlying9
        rw [strOfNums_map] at hcv
        go_wp2
        go_ret
        exact ⟨rfl,HB.out⟩
def toVar (x:Int):Int:=if isActB x then -1-(x-16) else x
def ruleT:List (List UInt8):=[
 [40,120,43,121,41,43,122,61,120,43,40,121,43,122,41],
 [120,43,121,61,121,43,120],
 [120,43,120,61,120],
 [120,43,48,61,120],
 [40,120,59,121,41,59,122,61,120,59,40,121,59,122,41],
 [49,59,120,61,120],
 [120,59,49,61,120],
 [48,59,120,61,48],
 [120,59,48,61,48],
 [120,59,40,121,43,122,41,61,120,59,121,43,120,59,122],
 [40,120,43,121,41,59,122,61,120,59,122,43,121,59,122],
 [49,43,120,59,120,42,61,120,42],
 [49,43,120,42,59,120,61,120,42],
 [40,120,59,121,41,42,59,120,61,120,59,40,121,59,120,41,42],
 [40,120,43,121,41,42,61,120,42,59,40,121,59,120,42,41,42],
 [120,42,42,61,120,42],
 [120,42,59,120,42,61,120,42],
 [48,42,61,49],
 [49,42,61,49],
 [40,49,43,120,41,42,61,120,42],
 [120,43,120,59,121,42,61,120,59,121,42]]
def sideT (n:Nat) (l:Bool):List UInt8:=if l then (Lib.cut (ruleT.getD n []) [61]).1 else (Lib.cut (ruleT.getD n []) [61]).2.1
def parseS (txt:List UInt8):Option (List Int):=
 match sumP txt.length (txt.map repl8) with
 | some (e,[])=>if katV e then some e else none
 | _=>none
def ruleS (n:Nat) (l:Bool):List Int:=((parseS (sideT n l)).getD []).map toVar
theorem sides_parse:∀ n,n<21→∀ l,(parseS (sideT n l)).isSome=true∧(sideT n l).length≤20:=by decide +kernel
theorem ruleT_len:∀ n,n<21→(ruleT.getD n []).length≤30:=by decide +kernel
theorem side_open {n:Nat} (h:n<21) (l:Bool):∃ e,sumP (sideT n l).length ((sideT n l).map repl8)=some (e,[])∧katV e=true∧ruleS n l=e.map toVar∧(sideT n l).length≤20:=by
 obtain ⟨h1,h2⟩:=sides_parse n h l
 obtain ⟨e,he⟩:=Option.isSome_iff_exists.1 h1
 refine ⟨e,?_,?_,by simp [ruleS,he],h2⟩
 all_goals
  unfold parseS at he
  split at he
  ·rename_i e' heq
   split at he
   ·injection he with he
    subst he
    assumption
   ·cases he
  ·cases he
def RuleE (w:World):Prop:=∃ rb off cap,w.cell? ⟨1,0,none⟩=some (.slice (some ⟨rb,off,none⟩) 21 cap)∧∀ j,j<21→w.cell? ⟨rb,off+j,none⟩=some (.string ⟨(ruleT.getD j []).toArray⟩)
theorem RuleE.below {w w':World} (h:RuleE w) (hb:Below w.heap.size w w'):RuleE w':=by
 obtain ⟨rb,off,cap,h1,h2⟩:=h
 exact ⟨rb,off,cap,(hb.cell (World.block_lt_of_cell? w _ h1)).trans h1,fun j hj=>(hb.cell (World.block_lt_of_cell? w _ (h2 j hj))).trans (h2 j hj)⟩
def Most (w:World):Prop:=∃ m,w.cell? ⟨4,0,none⟩=some (.int .i64 m)
theorem Most.below {w w':World} (h:Most w) (hb:Below w.heap.size w w'):Most w':=by
 obtain ⟨m,h⟩:=h
 exact ⟨m,(hb.cell (World.block_lt_of_cell? w _ h)).trans h⟩
structure EnvK (w:World):Prop where
 map:MapT w
 rules:RuleE w
 most:Most w
theorem EnvK.below {w w':World} (h:EnvK w) (hb:Below w.heap.size w w'):EnvK w':=⟨h.map.below hb,h.rules.below hb,h.most.below hb⟩
theorem CutM_any (l p:List UInt8) (s sep:ByteArray) (hs:s=⟨l.toArray⟩) (hp:sep=⟨p.toArray⟩) (w:World) (hE:Most w) (hl:l.length≤2097152) :
  Calls Tryz.prog 127 #[.string s,.string sep] w fun e w'=>e=.returned (.tuple #[.string ⟨(Lib.cut l p).1.toArray⟩,.string ⟨(Lib.cut l p).2.1.toArray⟩,.bool (Lib.cut l p).2.2])∧Below w.heap.size w w':=by
 subst hs hp
 obtain ⟨m,hm⟩:=hE
 refine (Tryz.strings_Cut ⟨l.toArray⟩ ⟨p.toArray⟩ m w (by show l.toArray.size<_;simp;omega) hm).mono ?_
 rintro e w' ⟨rfl,n,rfl⟩
 exact ⟨rfl,below_drewN (B_ _ _) _⟩
def KR (g:Nat) (w:World) (txt s:List UInt8):Prop:=
 w.heap[g]?=some (.cells #[.string ⟨txt.toArray⟩,.int .i64 ((txt.length-s.length:Nat):Int)] 87 (0,0))∧s=txt.drop (txt.length-s.length)∧s.length≤txt.length∧txt.length≤199
theorem KR.lt {g:Nat} {w:World} {txt s:List UInt8} (h:KR g w txt s):g<w.heap.size:=(Array.getElem?_eq_some_iff.1 h.1).1
theorem KR.below {g B:Nat} {w w':World} {txt s:List UInt8} (h:KR g w txt s) (hb:Below B w w') (hB:g<B):KR g w' txt s:=⟨by rw [hb.block g hB];exact h.1,h.2⟩
theorem KR.outside {g lo hi:Nat} {w w':World} {txt s:List UInt8} (h:KR g w txt s) (hb:Outside lo hi w w') (hB:g<lo):KR g w' txt s:=⟨by rw [hb.block g h.lt (.inl hB)];exact h.1,h.2⟩
def MapB (B:Nat) (w:World):Prop:=0<B∧∃ bm,bm<B∧B≤w.heap.size∧w.cell? ⟨0,0,none⟩=some (.map (some bm)) ∧
 ∀ w':World,w'.heap[bm]?=w.heap[bm]?→∀ t:Nat,t<16 →
  (Instr.lookup 109 (.map (some bm)) (.int .i64 t) true).run Tryz.prog w'=.ok (match namedT t with | some s=>.tuple #[.string ⟨s.toArray⟩,.bool true] | none=>.tuple #[.string ⟨#[]⟩,.bool false]) w'
theorem MapB.mapT {B:Nat} {w:World} (h:MapB B w):MapT w:=by
 obtain ⟨_,bm,h1,h2,h3,h4⟩:=h
 exact ⟨bm,h3,by omega,h4⟩
theorem MapT.mapB {w:World} (h:MapT w):MapB w.heap.size w:=by
 obtain ⟨bm,h1,h2,h3⟩:=h
 exact ⟨World.block_lt_of_cell? w _ h1,bm,h2,le_ _,h1,h3⟩
theorem MapB.keep {B:Nat} {w w':World} (h:MapB B w) (hs:w.heap.size≤w'.heap.size) (hb:∀ k,k<B→w'.heap[k]?=w.heap[k]?):MapB B w':=by
 obtain ⟨hg,bm,h1,h2,h3,h4⟩:=h
 refine ⟨hg,bm,h1,by omega,?_,fun w2 h=>h4 w2 (h.trans (hb bm h1))⟩
 rw [World.cell?_of_block (w:=w) (a:=⟨0,0,none⟩) (hb _ hg)]
 exact h3
theorem MapB.below {B C:Nat} {w w':World} (h:MapB B w) (hb:Below C w w') (hC:B≤C):MapB B w':=h.keep hb.size fun k hk=>hb.block k (by omega)
theorem MapB.outside {B lo hi:Nat} {w w':World} (h:MapB B w) (hb:Outside lo hi w w') (hC:B≤lo):MapB B w':=h.keep hb.size fun k hk=>by
 obtain ⟨_,_,_,h2,_⟩:=h
 exact hb.block k (by omega) (.inl (by omega))
theorem Outside.drawn (lo hi:Nat) (w:World) (n:Nat):Outside lo hi w (w.drewN n):=⟨rfl,rfl,rfl,le_ _,fun _ _ _=>rfl⟩
def isHead (c:Int):List UInt8→Bool
 | []=>false
 | d :: _=>(d.toNat:Int)==c
theorem KR.step {g:Nat} {w:World} {txt r:List UInt8} {d:UInt8} (h:KR g w txt (d :: r)) (m:Nat):KR g ((w.drewN m).setCell ⟨g,1,none⟩ (.int .i64 (((txt.length-(d :: r).length:Nat):Int)+1))) txt r:=by
 obtain ⟨h1,h2,h3,h4⟩:=h
 simp only [List.length_cons] at h3
 have e1:txt.length-r.length=txt.length-(r.length+1)+1:=by omega
 refine ⟨?_,?_,by omega,h4⟩
 ·have h':(w.drewN m).heap[g]?=_:=h1
  show ((w.drewN m).setCell ⟨g,1,none⟩ _).heap[g]?=_
  simp only [World.setCell,Array.getElem?_modify,h',if_true]
  simp only [List.length_cons]
  rw [e1]
  simp
 ·have hlt:txt.length-(r.length+1)<txt.length:=by omega
  simp only [List.length_cons] at h2
  rw [List.drop_eq_getElem_cons hlt] at h2
  injection h2 with _ h2
  rw [e1]
  exact h2
theorem take_any (g:Nat) (w:World) (txt s:List UInt8) (c:Int) (h:KR g w txt s) :
  Calls Tryz.prog 120 #[.pointer (some ⟨g,0,none⟩),.int .u8 c] w (RetB fun b w'=>b=isHead c s∧KR g w' txt (if b then s.tail else s)∧Outside g (g+1) w w'):=by
 have HK:=H_ h
 obtain ⟨h1,h2,h3,h4⟩:=h
 have c0:w.cell? ⟨g,0,none⟩=some (.string ⟨txt.toArray⟩):=by rw [Lib.cell_of_heap h1];rfl
 have c1:w.cell? ⟨g,1,none⟩=some (.int .i64 ((txt.length-s.length:Nat):Int)):=by rw [Lib.cell_of_heap h1];rfl
 have f1:w.frozen? ⟨g,1,none⟩=false:=Lib.frozen_of_heap h1 1
 clear h1
 cases s with
 | nil=>
  obtain ⟨n,hn⟩:∃ n,n=txt.length:=⟨_,rfl⟩
  simp only [List.length_nil,Nat.sub_zero] at c1
  clear h2 h3 hn
  go_enter Tryz.func120,Tryz.ntmps120
  go_wp2
  go_quiet (fail)
  go_wp2
  go_ret
  exact RetB.mk _ rfl ⟨rfl,HK.out,Outside.drawn _ _ _ _⟩
 | cons d r=>
  obtain ⟨n,hn⟩:∃ n,n=txt.length-(d :: r).length:=⟨_,rfl⟩
  have hlt:n<txt.length:=by simp at h3;simp at hn;omega
  have hd:txt[n]=d:=by
   rw [←hn,List.drop_eq_getElem_cons hlt] at h2
   injection h2 with h2 _
   exact h2.symm
  rw [←hn] at c1
  have HN:=H_ hn
  clear h2 h3 hn
  have hget:∀ hh:n<(ByteArray.mk txt.toArray).size,(ByteArray.mk txt.toArray)[n]'hh=d:=fun _=>hd
  have hlt2:(n:Int)<(txt.length:Int):=by omega
  clear hd
  cases hq:((d.toNat:Int)==c)
  ·go_enter Tryz.func120,Tryz.ntmps120
   go_wp2
   go_quiet (fail)
   go_wp2
   go_ret
   exact RetB.mk false rfl ⟨hq.symm,HK.out,Outside.drawn _ _ _ _⟩
  ·go_enter Tryz.func120,Tryz.ntmps120
   go_wp2
   go_quiet (fail)
   go_wp2
   go_ret
   refine RetB.mk true rfl ⟨hq.symm,?_,?_⟩
   ·have:=HK.out.step nq
    rw [←HN.out] at this
    exact this
   ·exact (Outside.drawn _ _ _ _).setCell (p:=⟨g,1,none⟩) (le_ _) (Nat.lt_succ_self _) _
def Short (p:PR):Prop:=∀ s e r,p s=some (e,r)→e.length+r.length≤s.length
theorem single_short {sum:PR} (h:Short sum):Short (singleP sum):=by
 intro s e r hs
 cases s with
 | nil=>simp [singleP] at hs
 | cons c t=>
  simp only [singleP] at hs
  split at hs
  ·split at hs
   ·rename_i e' d r2 he
    split at hs
    ·injection hs with hs
     injection hs with h1 h2
     subst h1 h2
     have:=h _ _ _ he
     simp at this ⊢
     omega
    ·cases hs
   ·cases hs
  ·split at hs
   ·cases hs
   ·split at hs
    ·injection hs with hs
     injection hs with h1 h2
     subst h1 h2
     simp;omega
    ·split at hs
     ·injection hs with hs
      injection hs with h1 h2
      subst h1 h2
      simp;omega
     ·cases hs
theorem star_short:∀ (s:List UInt8) (e e':List Int) (r:List UInt8),starP e s=(e',r)→e'.length+r.length≤e.length+s.length
 | [],e,e',r,h=>by simp [starP] at h;simp [h.1,h.2]
 | c :: t,e,e',r,h=>by
  simp only [starP] at h
  split at h
  ·have:=star_short t _ _ _ h
   simp at this ⊢
   omega
  ·injection h with h1 h2
   subst h1 h2
   exact le_ _
theorem starred_short {single:PR} (h:Short single):Short (starredP single):=by
 intro s e r hs
 simp only [starredP,Option.map_eq_some_iff] at hs
 obtain ⟨⟨e1,r1⟩,h1,h2⟩:=hs
 have:=h _ _ _ h1
 have h3:e.length+r.length≤e1.length+r1.length:=star_short _ _ _ _ h2
 omega
theorem loop_short {sign:Nat} {op:Int} {part:PR} (h:Short part):∀ (n:Nat) (s:List UInt8) (e e':List Int) (r:List UInt8),loopP sign op part n e s=some (e',r)→e'.length+r.length≤e.length+s.length
 | n,[],e,e',r,hs=>by cases n<;>(simp [loopP] at hs;simp [hs.1,hs.2])
 | 0,c :: t,e,e',r,hs=>by
  simp only [loopP] at hs
  split at hs
  ·cases hs
  ·injection hs with hs
   injection hs with h1 h2
   subst h1 h2
   exact le_ _
 | n+1,c :: t,e,e',r,hs=>by
  simp only [loopP] at hs
  split at hs
  ·simp only [Option.bind_eq_some_iff] at hs
   obtain ⟨⟨e1,r1⟩,h1,h2⟩:=hs
   have h3:=h _ _ _ h1
   have h4:e'.length+r.length≤(e++e1++[op]).length+r1.length:=loop_short h n _ _ _ _ h2
   simp at h4 ⊢
   omega
  ·injection hs with hs
   injection hs with h1 h2
   subst h1 h2
   exact le_ _
theorem chain_short {sign:Nat} {op:Int} {part:PR} (h:Short part):Short (chainP sign op part):=by
 intro s e r hs
 simp only [chainP,Option.bind_eq_some_iff] at hs
 obtain ⟨⟨e1,r1⟩,h1,h2⟩:=hs
 have h3:=h _ _ _ h1
 have h4:e.length+r.length≤e1.length+r1.length:=loop_short h _ _ _ _ _ h2
 omega
theorem sum_short:∀ n,Short (sumP n)
 | 0=>by intro s e r h;cases h
 | n+1=>chain_short (chain_short (starred_short (single_short (sum_short n))))
def ReadR (g:Nat) (w:World) (txt:List UInt8) (e:List Int) (r:List UInt8):Ending→World→Prop:=
 RetV fun v w'=>OwnI w.heap.size w'.heap.size 3 w' v e∧KR g w' txt r∧Outside g (g+1) w w'
def Reads (f:FuncId) (p:PR) (n:Nat):Prop:=∀ (B g:Nat) (w:World) (txt s:List UInt8) (e:List Int) (r:List UInt8),KR g w txt s→s.length≤n→B≤g→MapB B w→p s=some (e,r) →
 Calls Tryz.prog f #[.pointer (some ⟨g,0,none⟩)] w (ReadR g w txt e r)
theorem single_open {sum:PR} {c:UInt8} {t:List UInt8} {e:List Int} {r:List UInt8} (h:singleP sum (c :: t)=some (e,r)) :
  (c.toNat=40∧∃ d,d.toNat=41∧sum t=some (e,d :: r)) ∨
  (c.toNat≠40∧c.toNat≠33∧c.toNat≠91∧r=t∧((97≤c.toNat∧c.toNat≤99∧e=[16+((c.toNat:Int)-97)])∨(¬(97≤c.toNat∧c.toNat≤99)∧∃ k:Nat,readT [c]=some k∧e=[(k:Int)]))):=by
 simp only [singleP] at h
 split at h
 ·rename_i hc
  split at h
  ·rename_i e' d r2 he
   split at h
   ·rename_i hd
    injection h with h
    injection h with h1 h2
    subst h1 h2
    exact .inl ⟨hc,d,hd,he⟩
   ·cases h
  ·cases h
 ·rename_i hc
  split at h
  ·cases h
  ·rename_i hc2
   split at h
   ·rename_i hc3
    injection h with h
    injection h with h1 h2
    exact .inr ⟨hc,by omega,by omega,h2.symm,.inl ⟨hc3.1,hc3.2,h1.symm⟩⟩
   ·rename_i hc3
    split at h
    ·rename_i k hk
     injection h with h
     injection h with h1 h2
     exact .inr ⟨hc,by omega,by omega,h2.symm,.inr ⟨hc3,k,hk,h1.symm⟩⟩
    ·cases h
theorem pre1 (c d:UInt8) (t:List UInt8) (h:d.toNat≠c.toNat):Lib.hasPrefix (ByteArray.mk (d :: t).toArray).data.toList (ByteArray.mk #[c]).data.toList=false:=by
 have hne:(c==d)=false:=by
  rw [beq_eq_false_iff_ne]
  intro e
  exact h (by rw [e])
 show List.isPrefixOf [c] (d :: t)=false
 simp [List.isPrefixOf,hne]
theorem ext01 (c:UInt8) (t:List UInt8):(ByteArray.mk (c :: t).toArray).extract 0 1=⟨#[c]⟩:=by
 apply ByteArray.ext
 simp [ByteArray.data_extract]
theorem extN (txt:List UInt8) (n:Nat):(ByteArray.mk txt.toArray).extract n txt.length=⟨(txt.drop n).toArray⟩:=by
 apply ByteArray.ext
 simp [ByteArray.data_extract]
 rw [List.take_of_length_le (by simp)]
theorem single_reads (sum:PR) (n:Nat) (hsum:Reads 68 sum n):Reads 193 (singleP sum) (n+1):=by
 intro B g w txt s e r hk hn hB hM hp
 have HM:=H_ hM
 have HK:=H_ hk
 have hg:=hk.lt
 cases s with
 | nil=>simp [singleP] at hp
 | cons c t=>
  have hnt:t.length≤n:=by simpa using hn
  have HS:=H_ hsum
  clear hsum hM hk hn
  rcases single_open hp with ⟨hc,d,hd,hs⟩|⟨hc,h33,h91,rfl,hrest⟩
  ·have HP:=H_ hs
   have q1:isHead 40 (c :: t)=true:=by simp [isHead];omega
   have q2:isHead 41 (d :: r)=true:=by simp [isHead];omega
   clear hp hs hc hd
   go_enter Tryz.func193,Tryz.ntmps193
   go_wp2_with fail
   refine (take_any g _ txt (c :: t) 40 HK.out).mono ?_
   rintro e1 w1 ⟨b,rfl,rfl,hk,ho⟩
   rw [q1] at hk ⊢
   replace HK:=H_ (show KR g w1 txt t from hk)
   have HO:=H_ ho
   replace HM:=H_ (HM.out.outside ho hB)
   clear hk ho
   go_wp2_with fail
   refine (HS.out B g _ txt t e (d :: r) HK.out hnt hB HM.out HP.out).mono ?_
   rintro e1 w2 ⟨v2,rfl,hown,hk,ho⟩
   replace HK:=H_ hk
   have HV:=H_ hown
   have hs1:=HO.out.size
   replace HO:=H_ (HO.out.trans ho)
   clear hk ho hown
   go_wp2_with fail
   refine (take_any g _ txt (d :: r) 41 HK.out).mono ?_
   rintro e1 w3 ⟨b,rfl,rfl,hk,ho⟩
   rw [q2] at hk ⊢
   replace HV:=H_ ((HV.out.outside ho (.inr (by omega))).wide2' ho.size)
   replace HK:=H_ (show KR g w3 txt r from hk)
   replace HO:=H_ (HO.out.trans ho)
   clear hk ho
   go_wp2
   go_ret
   exact RetV.mk _ rfl ⟨HV.out.wide2 hs1 (le_ _),HK.out,HO.out⟩
  ·have q1:isHead 40 (c :: r)=false:=by simp [isHead];omega
   have P1:=H_ (pre1 33 c r (by simpa using h33))
   have P2:=H_ (pre1 91 c r (by simpa using h91))
   clear hp h33 h91 hc
   go_enter Tryz.func193,Tryz.ntmps193
   go_wp2_with fail
   refine (take_any g _ txt (c :: r) 40 HK.out).mono ?_
   rintro e1 w1 ⟨b,rfl,rfl,hk,ho⟩
   rw [q1] at hk ⊢
   replace HK:=H_ (show KR g w1 txt (c :: r) from hk)
   have HO:=H_ ho
   replace HM:=H_ (HM.out.outside ho hB)
   have hs1:=ho.size
   clear hk ho q1
   obtain ⟨k1,k2,k3,k4⟩:=HK.out
   obtain ⟨m,hm⟩:∃ m,m=txt.length-(c :: r).length:=⟨_,rfl⟩
   have hex:=extN txt m
   rw [hm,←k2,←hm] at hex
   have c0:w1.cell? ⟨g,0,none⟩=some (.string ⟨txt.toArray⟩):=by rw [Lib.cell_of_heap k1];rfl
   have c1:w1.cell? ⟨g,1,none⟩=some (.int .i64 ((txt.length-(c :: r).length:Nat):Int)):=by rw [Lib.cell_of_heap k1];rfl
   have f1:w1.frozen? ⟨g,1,none⟩=false:=Lib.frozen_of_heap k1 1
   rw [←hm] at c1
   have HMM:=H_ hm
   have hm1:m≤txt.length:=by omega
   have hm2:(m:Int)≤txt.length:=by omega
   have hx1:=ext01 c r
   clear k1 k2 k3 hm
   go_wp2_with fail
   go_quiet (fail)
   go_wp2_with fail
   refine (Tryz.strings_HasPrefix _ _ _).mono ?_
   rintro e1 w2 ⟨rfl,rfl⟩
   rw [P1.out]
   go_wp2_with fail
   refine (Tryz.strings_HasPrefix _ _ _).mono ?_
   rintro e1 w2 ⟨rfl,rfl⟩
   rw [P2.out]
   have hget:∀ hh:0<(ByteArray.mk #[c]).size,(ByteArray.mk #[c])[0]'hh=c:=fun _=>rfl
   have hstep:∀ q,KR g ((w1.drewN q).setCell ⟨g,1,none⟩ (.int .i64 ((m:Int)+1))) txt r:=fun q=>by rw [HMM.out];exact HK.out.step q
   have hout:∀ q,Outside g (g+1) w ((w1.drewN q).setCell ⟨g,1,none⟩ (.int .i64 ((m:Int)+1))):=fun q=>(HO.out.trans (Outside.drawn _ _ _ q)).setCell (p:=⟨g,1,none⟩) (le_ _) (Nat.lt_succ_self _) _
   have HST:=H_ (And.intro hstep hout)
   clear hstep hout
   rcases hrest with ⟨h97,h99,rfl⟩|⟨hno,k,hk,rfl⟩
   ·have i97:(97:Int)≤c.toNat:=by omega
    have i99:(c.toNat:Int)≤99:=by omega
    go_wp2
    go_ret
    obtain ⟨wx,hwx⟩:∃ wx,wx=((w1.drewN nq).setCell ⟨g,1,none⟩ (.int .i64 ((m:Int)+1))):=⟨_,rfl⟩
    have hws:wx.heap.size=w1.heap.size:=by rw [hwx];simp [World.setCell]
    have h1:=HST.out.1 nq
    have h2:=HST.out.2 nq
    rw [←hwx] at h1 h2
    simp only [←hwx]
    have h3:=one_own (16+((c.toNat:Int)-97)) wx
    rw [hws] at h3
    have hs2:=h2.size
    exact RetV.mk _ rfl ⟨h3.wide2 hs1 (le_ _),h1.below ((B_ _ _).alloc (le_ _) _) (by omega),h2.below ((B_ _ _).alloc (le_ _) _) (by omega)⟩
   ·have HRT:=H_ hk
    have hcmp:(97≤c.toNat)∧¬(c.toNat≤99)∨¬(97≤c.toNat):=by omega
    clear hno hk
    obtain ⟨wx,hwx⟩:∃ wx,wx=((w1.drewN nq).setCell ⟨g,1,none⟩ (.int .i64 ((m:Int)+1))):=⟨_,rfl⟩
    have HWX:=H_ hwx
    have HKX:=H_ (HST.out.1 nq)
    have HOX:=H_ (HST.out.2 nq)
    have HMX:=H_ (HM.out.outside ((Outside.drawn g (g+1) w1 nq).setCell (p:=⟨g,1,none⟩) (le_ _) (Nat.lt_succ_self _) (.int .i64 ((m:Int)+1))) hB)
    rw [←hwx] at HKX HOX HMX
    have hs2:=HOX.out.size
    clear hwx HST
    rcases hcmp with ⟨h1,h2⟩|h1
    ·have i97:(97:Int)≤c.toNat:=by omega
     have i99:¬(c.toNat:Int)≤99:=by omega
     go_wp2_with fail
     simp only [←HWX.out]
     refine (impl_ReadTest [c] _ rfl _ HMX.out.mapT).mono ?_
     rintro e1 w2 ⟨rfl,rfl⟩
     rw [HRT.out,show rdT (some k)=.tuple #[.int .i64 k,.bool true] from rfl]
     go_wp2
     go_ret
     exact RetV.mk _ rfl ⟨(one_own _ _).wide2 hs2 (le_ _),HKX.out.below ((B_ _ _).alloc (le_ _) _) (by omega),HOX.out.below ((B_ _ _).alloc (le_ _) _) (by omega)⟩
    ·have i97:¬(97:Int)≤c.toNat:=by omega
     go_wp2_with fail
     simp only [←HWX.out]
     refine (impl_ReadTest [c] _ rfl _ HMX.out.mapT).mono ?_
     rintro e1 w2 ⟨rfl,rfl⟩
     rw [HRT.out,show rdT (some k)=.tuple #[.int .i64 k,.bool true] from rfl]
     go_wp2
     go_ret
     exact RetV.mk _ rfl ⟨(one_own _ _).wide2 hs2 (le_ _),HKX.out.below ((B_ _ _).alloc (le_ _) _) (by omega),HOX.out.below ((B_ _ _).alloc (le_ _) _) (by omega)⟩
theorem star_open {es e:List Int} {s r:List UInt8} (h:starP es s=(e,r)):(isHead 42 s=false∧e=es∧r=s)∨(isHead 42 s=true∧starP (es++[21]) s.tail=(e,r)):=by
 cases s with
 | nil=>simp [starP] at h;exact .inl ⟨rfl,h.1.symm,h.2⟩
 | cons c t=>
  simp only [starP] at h
  split at h
  ·rename_i hc
   exact .inr ⟨by simp [isHead];omega,h⟩
  ·rename_i hc
   injection h with h1 h2
   exact .inl ⟨by simp [isHead];omega,h1.symm,h2.symm⟩
theorem loop_open {sign:Nat} {op:Int} {part:PR} {m:Nat} {es e:List Int} {s r:List UInt8} (h:loopP sign op part m es s=some (e,r)) :
  (isHead sign s=false∧e=es∧r=s)∨(isHead sign s=true∧∃ e1 r1 m',part s.tail=some (e1,r1)∧loopP sign op part m' (es++e1++[op]) r1=some (e,r)):=by
 cases s with
 | nil=>cases m<;>(simp [loopP] at h;exact .inl ⟨rfl,h.1.symm,h.2⟩)
 | cons c t=>
  cases m with
  | zero=>
   simp only [loopP] at h
   split at h
   ·cases h
   ·rename_i hc
    injection h with h
    injection h with h1 h2
    exact .inl ⟨by simp [isHead];omega,h1.symm,h2.symm⟩
  | succ m=>
   simp only [loopP] at h
   split at h
   ·rename_i hc
    simp only [Option.bind_eq_some_iff] at h
    obtain ⟨⟨e1,r1⟩,h1,h2⟩:=h
    exact .inr ⟨by simp [isHead];omega,e1,r1,m,h1,h2⟩
   ·rename_i hc
    injection h with h
    injection h with h1 h2
    exact .inl ⟨by simp [isHead];omega,h1.symm,h2.symm⟩
theorem tail_len {c:Int} {s:List UInt8} (h:isHead c s=true):s.tail.length+1=s.length:=by
 cases s with
 | nil=>cases h
 | cons=>simp
theorem OwnI.app2 {lo hi e cap:Nat} {w:World} {a:Option Addr} {xs ys:List Int} (h:Own 1 lo hi e w (.slice a (xs.length+ys.length) cap) (xs.length+ys.length) (ints xs++ints ys)):OwnI lo hi e w (.slice a (xs++ys).length cap) (xs++ys):=by
 unfold OwnI
 rw [List.length_append,ints_append]
 exact h
theorem OwnI.app3 {lo hi e cap:Nat} {w:World} {a:Option Addr} {xs ys zs:List Int} (h:Own 1 lo hi e w (.slice a (xs.length+ys.length+zs.length) cap) (xs.length+ys.length+zs.length) (ints xs++(ints ys++ints zs))):OwnI lo hi e w (.slice a (xs++ys++zs).length cap) (xs++ys++zs):=by
 unfold OwnI
 rw [List.length_append,List.length_append,ints_append,ints_append,List.append_assoc]
 exact h
theorem starred_reads (single:PR) (n:Nat) (hsh:Short single) (hpart:Reads 193 single n):Reads 162 (starredP single) n:=by
 intro B g w txt s e r hk hn hB hM hp
 have hg:=hk.lt
 simp only [starredP,Option.map_eq_some_iff] at hp
 obtain ⟨⟨e1,r1⟩,hp1,hp2⟩:=hp
 have hlen:=hsh _ _ _ hp1
 have h199:=hk.2.2.2
 have hslen:=hk.2.2.1
 go_enter Tryz.func162,Tryz.ntmps162
 go_wp2_with fail
 refine (hpart B g w txt s e1 r1 hk hn hB hM hp1).mono ?_
 rintro e' w1 ⟨v1,rfl,hown,hk1,ho⟩
 obtain ⟨a1,cap1,rfl,_⟩:=Own.open hown
 have H:=H_ (And.intro hown (And.intro hk1 (And.intro ho (show starP e1 r1=(e,r) from hp2))))
 clear hk hM hp1 hp2 hown hk1 ho hpart hsh
 go_wp2
 go_loopw [3] (fun v wr=>∃ (a:Option Addr) (cap:Nat) (es:List Int) (s':List UInt8),v=.slice a es.length cap∧es.length+s'.length≤199∧Hid (OwnI w.heap.size wr.heap.size 3 wr (.slice a es.length cap) es∧KR g wr txt s'∧Outside g (g+1) w wr∧starP es s'=(e,r))) (fun v _=>400-slLen v)
 case atStart=>exact ⟨a1,cap1,e1,r1,rfl,by omega,H⟩
 case round=>
  obtain ⟨a,cap,es,s',rfl,hl,HR⟩:=hrel
  clear H
  rcases star_open HR.out.2.2.2 with ⟨q,rfl,rfl⟩|⟨q,hq⟩
  ·go_wp2_with fail
   refine (take_any g _ txt _ 42 HR.out.2.1).mono ?_
   rintro e' w2 ⟨b,rfl,rfl,hk,ho⟩
   rw [q] at hk ⊢
   have HR2:=H_ (And.intro ((HR.out.1.outside ho (.inr (by omega))).wide2' ho.size) (And.intro hk (HR.out.2.2.1.trans ho)))
   clear hk ho
   go_wp2
   go_ret
   exact RetV.mk _ rfl ⟨HR2.out.1,HR2.out.2.1,HR2.out.2.2⟩
  ·have HQ:=H_ hq
   have htl:=tail_len q
   go_wp2_with fail
   refine (take_any g _ txt _ 42 HR.out.2.1).mono ?_
   rintro e' w2 ⟨b,rfl,rfl,hk,ho⟩
   rw [q] at hk ⊢
   have HR2:=H_ (And.intro ((HR.out.1.outside ho (.inr (by omega))).wide2' ho.size) (And.intro (show KR g w2 txt s'.tail from hk) (HR.out.2.2.1.trans ho)))
   clear hk ho hq q HR
   have hown:=HR2.out.1
   have hsz:=HR2.out.2.2.size
   go_wp2_with (at_builtin;refine wpList_app_lit _ rfl _ _ 22 rfl 3 (.int .i64 0) 1 8 Tryz.underlying22 info_int rfl (by decide) (by decide) rfl hown 1 (ints [21]) rfl rfl (ints_one _) rfl ?c1 ?c2 ?_)
   case c1=>omega
   case c2=>omega
   intro v' w5 hown5 hout5 _
   obtain ⟨a',cap',rfl,_⟩:=Own.open hown5
   have H3:=H_ (And.intro hown5 hout5)
   clear hown hown5 hout5
   go_wp2
   go_roundw
   case rel=>
    refine ⟨a',cap',es++[21],s'.tail,by simp,by simp;omega,H_ ⟨OwnI.app2 H3.out.1,HR2.out.2.1.outside H3.out.2 hg,HR2.out.2.2.fresh H3.out.2 (le_ _),HQ.out⟩⟩
   case measure=>simp [slLen];omega
theorem product_reads (part:PR) (n:Nat) (hsh:Short part) (hpart:Reads 162 part n):Reads 119 (chainP 59 19 part) n:=by
 intro B g w txt s e r hk hn hB hM hp
 have hg:=hk.lt
 simp only [chainP,Option.bind_eq_some_iff] at hp
 obtain ⟨⟨e1,r1⟩,hp1,hp2⟩:=hp
 have hlen:=hsh _ _ _ hp1
 have h199:=hk.2.2.2
 have hslen:=hk.2.2.1
 have HM:=H_ hM
 have HP:=H_ hpart
 have HS:=H_ hsh
 go_enter Tryz.func119,Tryz.ntmps119
 go_wp2_with fail
 refine (hpart B g w txt s e1 r1 hk hn hB hM hp1).mono ?_
 rintro e' w1 ⟨v1,rfl,hown,hk1,ho⟩
 obtain ⟨a1,cap1,rfl,_⟩:=Own.open hown
 have H:=H_ (And.intro hown (And.intro hk1 (And.intro ho (Exists.intro (p:=fun m=>loopP 59 19 part m e1 r1=some (e,r)) r1.length hp2))))
 clear hk hM hp1 hp2 hown hk1 ho hpart hsh
 go_wp2
 go_loopw [3] (fun v wr=>∃ (a:Option Addr) (cap:Nat) (es:List Int) (s':List UInt8),v=.slice a es.length cap∧es.length+s'.length≤199∧s'.length≤n∧Hid (OwnI w.heap.size wr.heap.size 3 wr (.slice a es.length cap) es∧KR g wr txt s'∧Outside g (g+1) w wr∧∃ m,loopP 59 19 part m es s'=some (e,r))) (fun v _=>400-slLen v)
 case atStart=>exact ⟨a1,cap1,e1,r1,rfl,by omega,by omega,H⟩
 case round=>
  obtain ⟨a,cap,es,s',rfl,hl,hl2,HR⟩:=hrel
  clear H
  obtain ⟨m,hm⟩:=HR.out.2.2.2
  rcases loop_open hm with ⟨q,rfl,rfl⟩|⟨q,e2,r2,m',hq1,hq2⟩
  ·clear hm
   go_wp2_with fail
   refine (take_any g _ txt _ 59 HR.out.2.1).mono ?_
   rintro e' w2 ⟨b,rfl,rfl,hk,ho⟩
   rw [show isHead 59 _=false from q] at hk ⊢
   have HR2:=H_ (And.intro ((HR.out.1.outside ho (.inr (by omega))).wide2' ho.size) (And.intro hk (HR.out.2.2.1.trans ho)))
   clear hk ho
   go_wp2
   go_ret
   exact RetV.mk _ rfl ⟨HR2.out.1,HR2.out.2.1,HR2.out.2.2⟩
  ·have HQ1:=H_ hq1
   have HQ2:=H_ hq2
   have htl:=tail_len q
   have hsh2:=HS.out _ _ _ hq1
   clear hm
   go_wp2_with fail
   refine (take_any g _ txt _ 59 HR.out.2.1).mono ?_
   rintro e' w2 ⟨b,rfl,rfl,hk,ho⟩
   rw [show isHead 59 s'=true from q] at hk ⊢
   have HR2:=H_ (And.intro ((HR.out.1.outside ho (.inr (by omega))).wide2' ho.size) (And.intro (show KR g w2 txt s'.tail from hk) (HR.out.2.2.1.trans ho)))
   clear hk ho hq1 hq2 q HR
   go_wp2_with fail
   refine (HP.out B g w2 txt s'.tail e2 r2 HR2.out.2.1 (by omega) hB (HM.out.outside HR2.out.2.2 hB) HQ1.out).mono ?_
   rintro e' w3 ⟨v3,rfl,hown3,hk,ho⟩
   have hsz2:=HR2.out.2.2.size
   have HX:=H_ hown3.sl
   have HR3:=H_ (And.intro ((HR2.out.1.outside ho (.inr (by omega))).wide2' ho.size) (And.intro hk (HR2.out.2.2.trans ho)))
   clear hk ho HR2 hown3
   have hown:=HR3.out.1
   have hsz:=HR3.out.2.2.size
   go_wp2_with (at_builtin;refine wpList_app_sl rfl _ _ 22 rfl 3 (.int .i64 0) 1 8 Tryz.underlying22 info_int rfl (by decide) (by decide) rfl hown rfl HX.out (ints_one _) ?c1 ?c2 ?_)
   case c1=>omega
   case c2=>omega
   intro v4 w4 hown4 _ hout4 _
   have HR4:=H_ (And.intro hown4 (And.intro (HR3.out.2.1.outside hout4 hg) (HR3.out.2.2.fresh hout4 (le_ _))))
   clear hown hown4 hout4 HR3 HX
   have hown:=HR4.out.1
   have hsz4:=HR4.out.2.2.size
   go_wp2_with (at_builtin;refine wpList_app_lit _ rfl _ _ 22 rfl 3 (.int .i64 0) 1 8 Tryz.underlying22 info_int rfl (by decide) (by decide) rfl hown 1 (ints [19]) rfl rfl (ints_one _) rfl ?c1 ?c2 ?_)
   case c1=>omega
   case c2=>omega
   intro v' w5 hown5 hout5 _
   obtain ⟨a',cap',rfl,_⟩:=Own.open hown5
   have H3:=H_ (And.intro hown5 hout5)
   clear hown hown5 hout5
   go_wp2
   go_roundw
   case rel=>
    exact ⟨a',cap',es++e2++[19],r2,by first | (simp;done) | (simp;omega),by simp;omega,by omega,H_ ⟨OwnI.app3 H3.out.1,HR4.out.2.1.outside H3.out.2 hg,HR4.out.2.2.fresh H3.out.2 (le_ _),m',HQ2.out⟩⟩
   case measure=>simp [slLen];omega
theorem sum_reads (part:PR) (n:Nat) (hsh:Short part) (hpart:Reads 119 part n):Reads 68 (chainP 43 20 part) n:=by
 intro B g w txt s e r hk hn hB hM hp
 have hg:=hk.lt
 simp only [chainP,Option.bind_eq_some_iff] at hp
 obtain ⟨⟨e1,r1⟩,hp1,hp2⟩:=hp
 have hlen:=hsh _ _ _ hp1
 have h199:=hk.2.2.2
 have hslen:=hk.2.2.1
 have HM:=H_ hM
 have HP:=H_ hpart
 have HS:=H_ hsh
 go_enter Tryz.func68,Tryz.ntmps68
 go_wp2_with fail
 refine (hpart B g w txt s e1 r1 hk hn hB hM hp1).mono ?_
 rintro e' w1 ⟨v1,rfl,hown,hk1,ho⟩
 obtain ⟨a1,cap1,rfl,_⟩:=Own.open hown
 have H:=H_ (And.intro hown (And.intro hk1 (And.intro ho (Exists.intro (p:=fun m=>loopP 43 20 part m e1 r1=some (e,r)) r1.length hp2))))
 clear hk hM hp1 hp2 hown hk1 ho hpart hsh
 go_wp2
 go_loopw [3] (fun v wr=>∃ (a:Option Addr) (cap:Nat) (es:List Int) (s':List UInt8),v=.slice a es.length cap∧es.length+s'.length≤199∧s'.length≤n∧Hid (OwnI w.heap.size wr.heap.size 3 wr (.slice a es.length cap) es∧KR g wr txt s'∧Outside g (g+1) w wr∧∃ m,loopP 43 20 part m es s'=some (e,r))) (fun v _=>400-slLen v)
 case atStart=>exact ⟨a1,cap1,e1,r1,rfl,by omega,by omega,H⟩
 case round=>
  obtain ⟨a,cap,es,s',rfl,hl,hl2,HR⟩:=hrel
  clear H
  obtain ⟨m,hm⟩:=HR.out.2.2.2
  rcases loop_open hm with ⟨q,rfl,rfl⟩|⟨q,e2,r2,m',hq1,hq2⟩
  ·clear hm
   go_wp2_with fail
   refine (take_any g _ txt _ 43 HR.out.2.1).mono ?_
   rintro e' w2 ⟨b,rfl,rfl,hk,ho⟩
   rw [show isHead 43 _=false from q] at hk ⊢
   have HR2:=H_ (And.intro ((HR.out.1.outside ho (.inr (by omega))).wide2' ho.size) (And.intro hk (HR.out.2.2.1.trans ho)))
   clear hk ho
   go_wp2
   go_ret
   exact RetV.mk _ rfl ⟨HR2.out.1,HR2.out.2.1,HR2.out.2.2⟩
  ·have HQ1:=H_ hq1
   have HQ2:=H_ hq2
   have htl:=tail_len q
   have hsh2:=HS.out _ _ _ hq1
   clear hm
   go_wp2_with fail
   refine (take_any g _ txt _ 43 HR.out.2.1).mono ?_
   rintro e' w2 ⟨b,rfl,rfl,hk,ho⟩
   rw [show isHead 43 s'=true from q] at hk ⊢
   have HR2:=H_ (And.intro ((HR.out.1.outside ho (.inr (by omega))).wide2' ho.size) (And.intro (show KR g w2 txt s'.tail from hk) (HR.out.2.2.1.trans ho)))
   clear hk ho hq1 hq2 q HR
   go_wp2_with fail
   refine (HP.out B g w2 txt s'.tail e2 r2 HR2.out.2.1 (by omega) hB (HM.out.outside HR2.out.2.2 hB) HQ1.out).mono ?_
   rintro e' w3 ⟨v3,rfl,hown3,hk,ho⟩
   have hsz2:=HR2.out.2.2.size
   have HX:=H_ hown3.sl
   have HR3:=H_ (And.intro ((HR2.out.1.outside ho (.inr (by omega))).wide2' ho.size) (And.intro hk (HR2.out.2.2.trans ho)))
   clear hk ho HR2 hown3
   have hown:=HR3.out.1
   have hsz:=HR3.out.2.2.size
   go_wp2_with (at_builtin;refine wpList_app_sl rfl _ _ 22 rfl 3 (.int .i64 0) 1 8 Tryz.underlying22 info_int rfl (by decide) (by decide) rfl hown rfl HX.out (ints_one _) ?c1 ?c2 ?_)
   case c1=>omega
   case c2=>omega
   intro v4 w4 hown4 _ hout4 _
   have HR4:=H_ (And.intro hown4 (And.intro (HR3.out.2.1.outside hout4 hg) (HR3.out.2.2.fresh hout4 (le_ _))))
   clear hown hown4 hout4 HR3 HX
   have hown:=HR4.out.1
   have hsz4:=HR4.out.2.2.size
   go_wp2_with (at_builtin;refine wpList_app_lit _ rfl _ _ 22 rfl 3 (.int .i64 0) 1 8 Tryz.underlying22 info_int rfl (by decide) (by decide) rfl hown 1 (ints [20]) rfl rfl (ints_one _) rfl ?c1 ?c2 ?_)
   case c1=>omega
   case c2=>omega
   intro v' w5 hown5 hout5 _
   obtain ⟨a',cap',rfl,_⟩:=Own.open hown5
   have H3:=H_ (And.intro hown5 hout5)
   clear hown hown5 hout5
   go_wp2
   go_roundw
   case rel=>
    exact ⟨a',cap',es++e2++[20],r2,by first | (simp;done) | (simp;omega),by simp;omega,by omega,H_ ⟨OwnI.app3 H3.out.1,HR4.out.2.1.outside H3.out.2 hg,HR4.out.2.2.fresh H3.out.2 (le_ _),m',HQ2.out⟩⟩
   case measure=>simp [slLen];omega
theorem sumP_reads:∀ n,Reads 68 (sumP n) n
 | 0=>by intro B g w txt s e r hk hn hB hM hp;cases hp
 | n+1=>sum_reads _ _ (chain_short (starred_short (single_short (sum_short n)))) (product_reads _ _ (starred_short (single_short (sum_short n))) (starred_reads _ _ (single_short (sum_short n)) (single_reads _ _ (sumP_reads n))))
theorem info_str:(Tryz.prog.info? 9).map (fun i=>(i.zero,i.size,i.bytes))=some (some (.string ⟨#[]⟩),1,16):=by kernel_rfl
theorem newReplacer_any (a:Addr) (c:Nat) (w:World) (hs:Sl 1 0 w.heap.size w (.slice (some a) 6 c) 6 six) :
  Calls Tryz.prog 218 #[.slice (some a) 6 c] w (RetV fun v w'=>∃ g o cap,v=.pointer (some ⟨g,0,none⟩)∧w.heap.size≤g∧w.heap.size≤o∧o≠g∧Below w.heap.size w w' ∧
   Blk g (.cells #[.int .u32 0,.int .i32 0,.int .u32 0,.nilIface,.slice (some ⟨o,0,none⟩) 6 cap] 254) w'∧(∀ j,j<6→w'.cell? ⟨o,j,none⟩=six[j]?)):=by
 have HS:=H_ hs
 clear hs
 have hnil:=Own.nil 1 w.heap.size w.heap.size 9 w
 go_enter Tryz.func218,Tryz.ntmps218
 go_wp2_with (at_builtin;refine wpList_app_sl rfl _ _ 26 rfl 9 (.string ⟨#[]⟩) 1 16 Tryz.underlying26 info_str rfl (by decide) (by decide) rfl hnil rfl HS.out ?c0 ?c1 ?c2 ?_)
 case c0=>decide
 case c1=>omega
 case c2=>omega
 intro v1 w1 hown hgr hout _
 obtain ⟨⟨hlen,h⟩,hlt⟩:=hown
 rcases h with ⟨_,h0⟩|⟨o,cap,cur,rfl,hb,hg,hnc,hcm,hcs,htake⟩
 ·cases h0
 ·have hs1:=hout.size
  have holt:=(Array.getElem?_eq_some_iff.1 hg).1
  have hcell:∀ j,j<6→w1.cell? ⟨o,j,none⟩=six[j]?:=by
   intro j hj
   have h:(cur.toList.take 6)[j]?=six[j]?:=congrArg (fun l=>l[j]?) htake
   rw [World.cell?,hg]
   rw [List.getElem?_take,if_pos hj] at h
   simpa using h
  have HB:=H_ (show Below w.heap.size w w1 from ⟨hout.os,hout.tape,hout.output,hout.size,fun k hk=>hout.block k hk (by omega)⟩)
  have HC:=H_ hcell
  clear hcell hlen hlt hgr hg hcs htake hcm hout hnil
  go_wp2
  go_ret
  refine RetV.mk _ rfl ⟨w1.heap.size,o,cap,rfl,hs1,hb,by omega,HB.out.alloc hs1 _,Blk.new _ _,fun j hj=>?_⟩
  exact (((B_ _ w1).alloc (le_ _) _).cell (p:=⟨o,j,none⟩) holt).trans (HC.out j hj)
theorem replReplace_any (g o cap:Nat) (txt:List UInt8) (w:World) (hne:o≠g) (hK:Blk g (.cells #[.int .u32 0,.int .i32 0,.int .u32 0,.nilIface,.slice (some ⟨o,0,none⟩) 6 cap] 254) w)
  (hS:∀ j,j<6→w.cell? ⟨o,j,none⟩=six[j]?) (hl:txt.length≤199) :
  Calls Tryz.prog 219 #[.pointer (some ⟨g,0,none⟩),.string ⟨txt.toArray⟩] w fun e w'=>e=.returned (.string ⟨(txt.map repl8).toArray⟩)∧Outside g (g+1) w w':=by
 have hmf:∀ (fn:Fn) (first cap:Array Value) (w:World),(Instr.makeFunc fn first cap).run Tryz.prog w=.ok (.func fn first cap) w:=fun _ _ _ _=>rfl
 have HK:=H_ hK
 have HS:=H_ hS
 have hlt:=hK.lt
 clear hK hS
 go_enter Tryz.func219,Tryz.ntmps219
 go_wp2_with fail
 refine (do_first g o cap _ _ hne HK.out HS.out).mono ?_
 rintro e w1 ⟨rfl,t,cs,h1,h2,h3,h4,h5⟩
 have c3:=h2.cell 3
 have hm : ∀ w, Sem.run Tryz.prog (method 461 278 (.pointer (some ⟨t, 0, none⟩)) "Replace") w = .ok (⟨330, .pointer (some ⟨t, 0, none⟩)⟩) w := fun w => by kernel_rfl
 have H3:=H_ h3
 have H4:=H_ h4
 have H5:=H_ h5
 clear h2 h3 h4 h5
 go_wp2_with fail
 refine (bReplace_any t cs txt _ H3.out H4.out hl).mono ?_
 rintro e w2 ⟨rfl,hb⟩
 have HB:=H_ hb
 clear hb
 go_wp2
 go_ret
 exact ⟨rfl,H5.out.trans (Outside.of_below HB.out (le_ _))⟩
theorem readKat_idle (p q:Addr) (w:World) :
  CallsD Tryz.prog 67 #[.pointer (some p),.pointer (some q)] .returning w fun e u' w'=>e=.returned (.tuple #[])∧u'=.returning∧w'=w:=by
 refine callsD_of_wpS Tryz.func67 rfl fun c₀ cs hu=>?_
 apply wpS_seq
 apply wpS_region
 simp [wpOpsS,go_sem,recoverD,hu,Tryz.ntmps67,Exit.thenS]
 refine wpS_of_wp ?_
 change Code.wp _ _ _ { tmps:=#[.pointer (some p),.pointer (some q),undef,undef,undef,.nilIface,undef,undef,undef,undef,undef],defers:=[] } w
 go_wp2
 cases c₀
 simp_all [bodyPostS,results,Tryz.results67]
theorem impl_ReadKat (txt:List UInt8) (e:List Int) (s:ByteArray) (hs:s=⟨txt.toArray⟩) (w:World) (hM:MapT w) (hl:txt.length≤199) (hp:sumP txt.length txt=some (e,[])) (hv:katV e=true) :
  Calls Tryz.prog 26 #[.string s] w (RetV fun x w'=>∃ v,x=.tuple #[v,.bool true]∧Below w.heap.size w w'∧OwnI w.heap.size w'.heap.size 3 w' v e):=by
 subst hs
 have hmf:∀ (fn:Fn) (first cap:Array Value) (w:World),(Instr.makeFunc fn first cap).run Tryz.prog w=.ok (.func fn first cap) w:=fun _ _ _ _=>rfl
 have HM:=H_ hM.mapB
 have HP:=H_ hp
 clear hM hp
 obtain ⟨w3,hw3⟩:∃ w3,w3=(((w.alloc (.cells #[.slice none 0 0] 22)).alloc (.cells #[.bool false] 4)).alloc (.cells #[.string ⟨txt.toArray⟩,.int .i64 0] 87)):=⟨_,rfl⟩
 have hb:Below w.heap.size w w3:=by rw [hw3];exact (((B_ _ _).alloc (le_ _) _).alloc (by simp) _).alloc (by simp;omega) _
 have hsz:w3.heap.size=w.heap.size+3:=by rw [hw3];simp
 have hh0:Blk w.heap.size (.cells #[.slice none 0 0] 22) w3:=by
  rw [hw3]
  exact ((Blk.new w _).below ((B_ _ _).alloc (le_ _) _) (by simp)).below ((B_ _ _).alloc (le_ _) _) (by simp;omega)
 have hh1:Blk (w.heap.size+1) (.cells #[.bool false] 4) w3:=by
  have h:=Blk.new (w.alloc (.cells #[.slice none 0 0] 22)) (.cells #[.bool false] 4)
  rw [alloc_size] at h
  rw [hw3]
  exact h.below ((B_ _ _).alloc (le_ _) _) (by simp)
 have hh2:Blk (w.heap.size+2) (.cells #[.string ⟨txt.toArray⟩,.int .i64 0] 87) w3:=by
  have h:=Blk.new ((w.alloc (.cells #[.slice none 0 0] 22)).alloc (.cells #[.bool false] 4)) (.cells #[.string ⟨txt.toArray⟩,.int .i64 0] 87)
  rw [alloc_size,alloc_size] at h
  rw [hw3]
  exact h
 have HK:=H_ (show KR (w.heap.size+2) w3 txt txt from ⟨by rw [show w3.heap[w.heap.size+2]?=_ from hh2];simp,by simp,le_ _,hl⟩)
 have HB:=H_ hb
 have HW:=H_ hw3
 have H0:=H_ hh0
 have H1:=H_ hh1
 clear hh0 hh1 hh2 hb hw3
 replace HM:=H_ (HM.out.below HB.out (le_ _))
 go_enter_defers Tryz.func26,Tryz.ntmps26
 go_wp2_with fail
 simp only [←HW.out]
 refine (sumP_reads txt.length w.heap.size (w.heap.size+2) w3 txt txt e [] HK.out (le_ _) (by omega) HM.out HP.out).mono ?_
 rintro e' w4 ⟨v,rfl,hown,hk,ho⟩
 obtain ⟨a,cap,rfl,_⟩:=Own.open hown
 have hs4:=ho.size
 replace H0:=H_ ((ho.block w.heap.size (by omega) (by omega)).trans H0.out)
 replace H1:=H_ ((ho.block (w.heap.size+1) (by omega) (by omega)).trans H1.out)
 replace HB:=H_ (Below.outside HB.out ho (by omega) HB.out.size)
 have HV:=H_ hown
 obtain ⟨k1,k2,_,_⟩:=hk
 have c1:w4.cell? ⟨w.heap.size+2,1,none⟩=some (.int .i64 (txt.length:Int)):=by rw [Lib.cell_of_heap k1];rfl
 have e0:w4.cell? ⟨w.heap.size,0,none⟩=some (.slice none 0 0):=by rw [Lib.cell_of_heap H0.out];rfl
 have e1:w4.cell? ⟨w.heap.size+1,0,none⟩=some (.bool false):=by rw [Lib.cell_of_heap H1.out];rfl
 have f0:w4.frozen? ⟨w.heap.size,0,none⟩=false:=Lib.frozen_of_heap H0.out 0
 have f1:w4.frozen? ⟨w.heap.size+1,0,none⟩=false:=Lib.frozen_of_heap H1.out 0
 have helen:e.length≤1048576:=by have:=sum_short txt.length _ _ _ HP.out;simp at this;omega
 clear k1 k2 ho hown HK
 go_wp2_with fail
 refine (impl_KatValid _ _ _ e _ HV.out.sl helen).mono ?_
 rintro e' w5 ⟨rfl,rfl⟩
 rw [hv]
 go_wp2
 have hown5:=HV.out
 obtain ⟨wz,hwz⟩:∃ wz,wz=((w4.setCell ⟨w.heap.size,0,none⟩ (.slice a e.length cap)).setCell ⟨w.heap.size+1,0,none⟩ (.bool true)):=⟨_,rfl⟩
 have hoz:Outside w.heap.size (w.heap.size+2) w4 wz:=by
  rw [hwz]
  exact ((Outside.refl _ _ _).setCell (p:=⟨w.heap.size,0,none⟩) (le_ _) (by show w.heap.size<_;omega) _).setCell (p:=⟨w.heap.size+1,0,none⟩) (by show w.heap.size≤w.heap.size+1;omega) (by show w.heap.size+1<_;omega) _
 have z0:wz.cell? ⟨w.heap.size,0,none⟩=some (.slice a e.length cap):=by
  rw [hwz]
  exact (World.cell?_setCell_other _ _ _ _ (by simp)).trans (World.cell?_setCell_same _ _ _ e0)
 have z1:wz.cell? ⟨w.heap.size+1,0,none⟩=some (.bool true):=by
  rw [hwz]
  exact World.cell?_setCell_same _ _ _ ((World.cell?_setCell_other _ _ _ _ (by simp)).trans e1)
 simp only [←hwz]
 clear hwz
 refine leaves_cons (f:=67) (args:=#[.pointer (some ⟨w.heap.size,0,none⟩),.pointer (some ⟨w.heap.size+1,0,none⟩)]) (by simp) (by simp [go_sem]) ?_
 refine (readKat_idle _ _ _).mono ?_
 rintro e' u' w'' ⟨rfl,rfl,rfl⟩
 simp [Leaves,settle,results,Tryz.results26,go_sem,z0,z1]
 exact RetV.mk _ rfl ⟨_,rfl,Below.outside HB.out hoz (le_ _) HB.out.size,(hown5.outside hoz (.inr (by omega))).wide2 (by omega) hoz.size⟩
theorem readSide_any (txt:List UInt8) (e:List Int) (w:World) (hM:MapT w) (hl:txt.length≤199) (hp:sumP txt.length (txt.map repl8)=some (e,[])) (hv:katV e=true) :
  Calls Tryz.prog 194 #[.string ⟨txt.toArray⟩] w (RetV fun v w'=>Below w.heap.size w w'∧OwnI w.heap.size w'.heap.size 3 w' v (e.map toVar)):=by
 have HM:=H_ hM
 have HP:=H_ hp
 have helen:e.length≤199:=by have:=sum_short txt.length _ _ _ hp;simp at this;omega
 clear hM hp
 obtain ⟨w0,hw0⟩:∃ w0,w0=w.alloc (.cells #[.string ⟨#[120]⟩,.string ⟨#[97]⟩,.string ⟨#[121]⟩,.string ⟨#[98]⟩,.string ⟨#[122]⟩,.string ⟨#[99]⟩] 9):=⟨_,rfl⟩
 have hb0:Below w.heap.size w w0:=by rw [hw0];exact (B_ _ _).alloc (le_ _) _
 have hsl:Sl 1 0 w0.heap.size w0 (.slice (some ⟨w.heap.size,0,none⟩) 6 6) 6 six:=by
  have h:=(Own.lit 1 9 w six 6 (by omega) rfl).sl
  rw [hw0]
  exact Sl.wide h (Nat.zero_le _) (by simp)
 have hsz0:=hb0.size
 have HB:=H_ hb0
 have HS:=H_ hsl
 have HW0:=H_ hw0
 clear hb0 hsl hw0
 go_enter Tryz.func194,Tryz.ntmps194
 go_wp2_with fail
 simp only [←HW0.out]
 refine (newReplacer_any _ _ _ HS.out).mono ?_
 rintro e1 w1 ⟨v1,rfl,g,o,cap,rfl,hg,ho,hne,hb,hk,hs⟩
 have HK:=H_ hk
 have HC:=H_ hs
 replace HB:=H_ (HB.out.trans (hb.mono hsz0))
 clear hk hs hb
 go_wp2_with fail
 refine (replReplace_any g o cap txt w1 hne HK.out HC.out hl).mono ?_
 rintro e1 w2 ⟨rfl,ho2⟩
 replace HB:=H_ (Below.outside HB.out ho2 (by omega) HB.out.size)
 clear ho2
 go_wp2_with fail
 refine (impl_ReadKat (txt.map repl8) e _ rfl w2 (HM.out.below HB.out) (by simpa using hl) (by rw [List.length_map];exact HP.out) hv).mono ?_
 rintro e1 w3 ⟨v3,rfl,v,rfl,hb,hown⟩
 have hs2:=HB.out.size
 replace HB:=H_ (HB.out.trans (hb.mono HB.out.size))
 obtain ⟨a,cp,rfl,hcap,hcm,hlen,hopen⟩:=Own.open hown
 have hown0:=hown.1
 have HLT:=H_ hown.2
 clear hb hown hlen
 go_wp2
 go_loopw [17] (fun i wr=>∃ j:Nat,j≤e.length∧i=.int .i64 j∧Hid (wr.ownsRow w2.heap.size 3 1 (.slice a e.length cp) e.length (over (ints (e.map toVar)) (ints e) j)∧Below w.heap.size w wr∧w3.heap.size≤wr.heap.size)) (fun i _=>e.length-(intOf i).toNat)
 case atStart=>exact ⟨0,by omega,rfl,H_ ⟨by rw [over_zero];exact hown0,HB.out,le_ _⟩⟩
 case round=>
  obtain ⟨j,hj,rfl,HR⟩:=hrel
  clear hown0
  by_cases hlt:j<e.length
  ·obtain ⟨q,rfl,hg1,hg2⟩:=hopen (by omega)
   have hown:=HR.out.1
   have hw1:=hown.cellAt j (by omega)
   have hw2:=hown.frozenAt j
   rw [over_get _ _ _ (by simp [ints]) (by simp [ints];omega),ints_get _ _ hlt] at hw1
   have hlm:j<(e.map toVar).length:=by simpa using hlt
   cases hq:isActB e[j]
   ·have HE:=H_ (show over (ints (e.map toVar)) (ints e) j=over (ints (e.map toVar)) (ints e) (j+1) by
     have h:=over_set (ints (e.map toVar)) (ints e) j (by simp [ints]) (by simp [ints];omega) _ (ints_get _ _ hlm)
     rw [←h]
     symm
     apply List.ext_getElem?
     intro i
     rw [List.getElem?_set]
     split
     ·subst_vars
      split
      ·rw [over_get _ _ _ (by simp [ints]) (by simp [ints];omega),ints_get _ _ hlt]
       simp [toVar,hq]
      ·rename_i h2
       exact absurd (by rw [over_length _ _ _ (by simp [ints])];simp [ints];omega) h2
     ·rfl)
    clear hown hopen
    go_wp2_with (go_at_call 176;refine (isAct_any _ _).mono ?_;rintro e w' ⟨rfl,rfl⟩)
    go_roundw
    case rel=>exact ⟨j+1,by omega,by go_num,H_ ⟨by rw [←HE.out];exact HR.out.1,HR.out.2⟩⟩
    case measure=>simp [intOf];omega
   ·have hty:(-1:Int)-(e[j]-16)=(e.map toVar)[j]:=by simp [toVar,hq]
    have HST:=H_ (hown.stored j (.int .i64 (-1-(e[j]-16)))).1
    have HY:=H_ hty
    have hb1:16≤e[j]∧e[j]≤18:=by simpa [isActB] using hq
    obtain ⟨b16,b18⟩:=hb1
    clear hown hopen hty
    go_wp2_with (go_at_call 176;refine (isAct_any _ _).mono ?_;rintro e w' ⟨rfl,rfl⟩)
    go_roundw
    case rel=>
     refine ⟨j+1,by omega,by go_num,H_ ⟨?_,HR.out.2.1.setCell (p:=⟨q,j,none⟩) (by show w.heap.size≤q;omega) _,by simpa [World.setCell] using HR.out.2.2⟩⟩
     have h:=over_set (ints (e.map toVar)) (ints e) j (by simp [ints]) (by simp [ints];omega) _ (ints_get _ _ hlm)
     rw [←h,←HY.out]
     exact HST.out
    case measure=>simp [intOf];omega
  ·obtain rfl:j=e.length:=by omega
   go_wp2
   go_ret
   have h:=HR.out.1
   rw [over_all _ _ _ (by simp [ints]) (by simp [ints])] at h
   refine RetV.mk _ rfl ⟨HR.out.2.1,OwnI.len (n:=e.length) (Own.wide2 ⟨h,fun g hg=>Nat.lt_of_lt_of_le (HLT.out g hg) HR.out.2.2⟩ hs2 (le_ _)) (by simp)⟩
def RuleOwn (lo hi:Nat) (w:World) (a b:Value) (L R:List Int):Prop:=∃ m,lo≤m∧m≤hi∧OwnI lo m 3 w a L∧OwnI m hi 3 w b R
def RetR (P:Value→Value→World→Prop) (e:Ending) (w':World):Prop:=∃ a b,e=.returned (.agg #[a,b])∧P a b w'
theorem Blk.set2 {g:Nat} {e:TypeId} {w:World} {x0 x1:Value} (h:Blk g (.cells #[x0,x1] e (0,0)) w) (a b:Value) :
  Blk g (.cells #[a,b] e (0,0)) ((w.setCell ⟨g,0,none⟩ a).setCell ⟨g,1,none⟩ b):=by
 have h':w.heap[g]?=_:=h
 show ((w.setCell ⟨g,0,none⟩ a).setCell ⟨g,1,none⟩ b).heap[g]?=_
 simp [World.setCell,Array.getElem?_modify,h']
theorem Outside.set2 (g:Nat) (w:World) (a b:Value):Outside g (g+1) w ((w.setCell ⟨g,0,none⟩ a).setCell ⟨g,1,none⟩ b):=
 ((Outside.refl _ _ _).setCell (p:=⟨g,0,none⟩) (le_ _) (Nat.lt_succ_self _) _).setCell (p:=⟨g,1,none⟩) (le_ _) (Nat.lt_succ_self _) _
theorem ruleOf_any (n:Nat) (hn:n<21) (w:World) (hE:EnvK w) :
  Calls Tryz.prog 163 #[.int .i64 n] w (RetR fun a b w'=>Below w.heap.size w w'∧RuleOwn w.heap.size w'.heap.size w' a b (ruleS n true) (ruleS n false)):=by
 obtain ⟨w0,hw0⟩:∃ w0,w0=w.alloc (.cells #[.slice none 0 0,.slice none 0 0] 161):=⟨_,rfl⟩
 have HB:Hid (Below w.heap.size w w0):=by rw [hw0];exact H_ ((B_ _ _).alloc (le_ _) _)
 have K:Hid (Blk w.heap.size (.cells #[.slice none 0 0,.slice none 0 0] 161) w0):=by rw [hw0];exact H_ (Blk.new w _)
 have hsz:w0.heap.size=w.heap.size+1:=by rw [hw0];simp
 have hle:w.heap.size≤w0.heap.size:=by omega
 obtain ⟨eL,pL,vL,sL,lL⟩:=side_open hn true
 obtain ⟨eR,pR,vR,sR,lR⟩:=side_open hn false
 have PL:=H_ (And.intro pL (And.intro vL sL))
 have PR:=H_ (And.intro pR (And.intro vR sR))
 have HE:=H_ (hE.below HB.out)
 obtain ⟨rb,off,cap,g0,g1⟩:=HE.out.rules
 have gn:=g1 n hn
 have hlen:=ruleT_len n hn
 have hnc:(n:Int)<21:=by omega
 have HW0:=H_ hw0
 rw [hw0] at g0 gn
 clear hE pL vL sL pR vR sR g1 hw0
 go_enter Tryz.func163,Tryz.ntmps163
 go_wp2_with fail
 simp only [←HW0.out]
 refine (CutM_any (ruleT.getD n []) [61] _ _ rfl rfl w0 HE.out.most (by omega)).mono ?_
 rintro e w1 ⟨rfl,hb⟩
 replace HE:=H_ (HE.out.below hb)
 replace K:=H_ (K.out.below hb K.out.lt)
 replace HB:=H_ (HB.out.trans (hb.mono hle))
 have hs1:=hb.size
 rw [show (Lib.cut (ruleT.getD n []) [61]).1=sideT n true from rfl,show (Lib.cut (ruleT.getD n []) [61]).2.1=sideT n false from rfl]
 clear hb g0 gn
 go_wp2_with fail
 refine (readSide_any (sideT n true) eL _ HE.out.map (by omega) PL.out.1 PL.out.2.1).mono ?_
 rintro e w2 ⟨v2,rfl,hb,hown⟩
 obtain ⟨a2,cap2,rfl,_⟩:=Own.open hown
 have HL:=H_ hown
 replace HE:=H_ (HE.out.below hb)
 replace K:=H_ (K.out.below hb K.out.lt)
 have hs2:=hb.size
 replace HB:=H_ (HB.out.trans (hb.mono (by omega)))
 clear hb hown
 go_wp2_with fail
 refine (readSide_any (sideT n false) eR _ HE.out.map (by omega) PR.out.1 PR.out.2.1).mono ?_
 rintro e w3 ⟨v3,rfl,hb,hown⟩
 obtain ⟨a3,cap3,rfl,_⟩:=Own.open hown
 have HRR:=H_ hown
 replace HL:=H_ (HL.out.below hb (le_ _))
 replace K:=H_ (K.out.below hb K.out.lt)
 have hs3:=hb.size
 replace HB:=H_ (HB.out.trans (hb.mono (by omega)))
 clear hb hown
 have c0:=K.out.cell 0
 have c1:=K.out.cell 1
 have f0:=K.out.free 0
 have f1:=K.out.free 1
 obtain ⟨wz,hwz⟩:∃ wz,wz=((w3.setCell ⟨w.heap.size,0,none⟩ (.slice a2 (eL.map toVar).length cap2)).setCell ⟨w.heap.size,1,none⟩ (.slice a3 (eR.map toVar).length cap3)):=⟨_,rfl⟩
 have KZ:=K.out.set2 (.slice a2 (eL.map toVar).length cap2) (.slice a3 (eR.map toVar).length cap3)
 have HO:=H_ (Outside.set2 w.heap.size w3 (.slice a2 (eL.map toVar).length cap2) (.slice a3 (eR.map toVar).length cap3))
 rw [←hwz] at KZ HO
 have HZ:=H_ (Below.outside HB.out HO.out (le_ _) HB.out.size)
 have q0:=KZ.cell 0
 have q1:=KZ.cell 1
 have hsz4:=HO.out.size
 clear KZ
 go_wp2
 try simp only [List.length_map] at hwz q0 q1 ⊢
 simp only [←hwz]
 clear hwz
 refine bodyPost_ret (v:=.agg #[.slice a2 eL.length cap2,.slice a3 eR.length cap3]) (by simp [results,Tryz.results163,go_sem,q0,q1]) rfl ⟨_,_,rfl,HZ.out,?_⟩
 rw [PL.out.2.2,PR.out.2.2]
 have h1:=HL.out
 have h2:=HRR.out
 simp only [List.length_map] at h1 h2
 exact ⟨w2.heap.size,by omega,by omega,(h1.outside HO.out (.inr (by omega))).lower (by omega) (le_ _),(h2.outside HO.out (.inr (by omega))).lower (le_ _) hsz4⟩
theorem isRule_any (n:Int) (w:World):Calls Tryz.prog 145 #[.int .i64 n] w fun e w'=>e=.returned (.bool (inB n 0 20))∧w=w':=by
 go_enter Tryz.func145,Tryz.ntmps145
 by_cases h1:0≤n
 ·by_cases h2:n<21
  ·go_wp2
   go_ret
   exact ⟨ret_bool (by simp [inB,h1];omega),rfl⟩
  ·go_wp2
   go_ret
   exact ⟨ret_bool (by simp [inB];omega),rfl⟩
 ·go_wp2
  go_ret
  exact ⟨ret_bool (by simp [inB];omega),rfl⟩
def RetRB (P:Value→Value→Bool→World→Prop) (e:Ending) (w':World):Prop:=∃ a b c,e=.returned (.tuple #[.agg #[a,b],.bool c])∧P a b c w'
def isR (n:Int):Bool:=inB n 0 20
def ruleN (n:Int) (l:Bool):List Int:=if isR n then ruleS n.toNat l else []
theorem RuleOwn.nil (lo hi:Nat) (h:lo≤hi) (w:World):RuleOwn lo hi w (.slice none 0 0) (.slice none 0 0) [] []:=⟨lo,le_ _,h,Own.nil _ _ _ _ _,Own.nil _ _ _ _ _⟩
theorem RuleOwn.below {lo hi B:Nat} {w w':World} {a b:Value} {L R:List Int} (h:RuleOwn lo hi w a b L R) (hb:Below B w w') (hB:hi≤B):RuleOwn lo hi w' a b L R:=by
 obtain ⟨m,h1,h2,h3,h4⟩:=h
 exact ⟨m,h1,h2,h3.below hb (by omega),h4.below hb hB⟩
theorem slEq_any (lo hi lo' hi':Nat) (v v':Value) (xs ys:List Int) (w:World) (hx:SlI lo hi w v xs) (hy:SlI lo' hi' w v' ys) :
  Calls Tryz.prog 71 #[v,v'] w fun e w'=>e=.returned (.bool (eqL xs ys))∧Below w.heap.size w w':=by
 obtain ⟨a,cap,rfl,hcap,hcm,hc⟩:=hx.open
 obtain ⟨a',cap',rfl,hcap',hcm',hc'⟩:=hy.open
 unfold maxLen at hcm hcm'
 by_cases hl:xs.length=ys.length
 ·by_cases h0:xs.length=0
  ·obtain rfl:=List.eq_nil_of_length_eq_zero h0
   obtain rfl:=List.eq_nil_of_length_eq_zero (show ys.length=0 by omega)
   refine (Tryz.slices_Equal_int_empty a a' cap 0 cap' w (by omega)).mono ?_
   rintro e w' ⟨rfl,rfl⟩
   exact ⟨rfl,B_ _ _⟩
  ·obtain ⟨b,off,rfl,_⟩:=hc 0 (by omega)
   obtain ⟨b',off',rfl,_⟩:=hc' 0 (by omega)
   refine (Tryz.slices_Equal_int b off xs.length cap b' off' ys.length cap' xs ys w (le_ _) (le_ _) (by omega) (by omega) ?_ ?_).mono ?_
   ·intro j hj
    obtain ⟨b2,off2,e,_,_,_,h⟩:=hc j hj
    injection e with e;injection e with e1 e2;subst e1 e2
    rw [h];simp [List.getD,hj]
   ·intro j hj
    obtain ⟨b2,off2,e,_,_,_,h⟩:=hc' j hj
    injection e with e;injection e with e1 e2;subst e1 e2
    rw [h];simp [List.getD,hj]
   ·rintro e w' ⟨rfl,q,rfl⟩
    exact ⟨by simp [eqL],below_drewN (B_ _ _) _⟩
 ·refine (Tryz.slices_Equal_int_lens a a' _ cap _ cap' w hl).mono ?_
  rintro e w' ⟨rfl,rfl⟩
  exact ⟨ret_bool (eqL_len hl).symm,B_ _ _⟩
theorem cloneI_any (lo hi:Nat) (v:Value) (xs:List Int) (w:World) (hx:SlI lo hi w v xs) (hm:xs.length≤1048576) :
  Calls Tryz.prog 76 #[v] w (RetV fun v' w'=>Below w.heap.size w w'∧OwnI w.heap.size w'.heap.size 3 w' v' xs):=by
 obtain ⟨a,cap,rfl,hcap,hcm,hc⟩:=hx.open
 have hnone:a=none→cap=0:=by obtain ⟨a',cap',e,_,_,_,h,_⟩:=hx;injection e with e1 _ e2;subst e1 e2;exact h
 by_cases hl:xs.length=0
 ·have hx0:xs=[]:=List.eq_nil_of_length_eq_zero hl
  subst hx0
  cases a with
  | none=>
   refine (Tryz.slices_Clone_int_nil _ _ w).mono ?_
   rintro e w' ⟨rfl,rfl⟩
   exact RetV.mk _ rfl ⟨B_ _ _,Own.nil _ _ _ _ _⟩
  | some ad=>
   refine (Tryz.slices_Clone_int_zero ad cap w).mono ?_
   rintro e w' ⟨v',rfl,h1,_,h2⟩
   exact RetV.mk _ rfl ⟨h2,Own.of_row h1⟩
 ·obtain ⟨b,off,rfl,_⟩:=hc 0 (by omega)
  have hcc:∀ j,j<xs.length→w.cell? ⟨b,off+j,none⟩=some (.int .i64 (xs.getD j 0)):=by
   intro j hj
   obtain ⟨b',off',e,_,_,_,h⟩:=hc j hj
   injection e with e;injection e with e1 e2;subst e1 e2
   rw [h]
   simp [List.getD,hj]
  refine (Tryz.slices_Clone_int b off xs.length cap xs w (le_ _) (by omega) hcc).mono ?_
  rintro e w' ⟨v',rfl,h1,_,h2⟩
  rw [List.take_length] at h1
  exact RetV.mk _ rfl ⟨h2,Own.of_row h1⟩
theorem box_facts2 {w w0:World} {o:Obj} (h:w0=w.alloc o):Below w.heap.size w w0∧Blk w.heap.size o w0∧w.heap.size+1≤w0.heap.size:=by
 subst h
 exact ⟨(B_ _ _).alloc (le_ _) _,Blk.new w o,by simp⟩
theorem Blk.set4 {g:Nat} {e:TypeId} {w:World} {x0 x1 x2 x3:Value} (h:Blk g (.cells #[x0,x1,x2,x3] e (0,0)) w) (a b c d:Value) :
  Blk g (.cells #[a,b,c,d] e (0,0)) ((((w.setCell ⟨g,0,none⟩ a).setCell ⟨g,1,none⟩ b).setCell ⟨g,2,none⟩ c).setCell ⟨g,3,none⟩ d):=by
 have h':w.heap[g]?=_:=h
 show ((((w.setCell ⟨g,0,none⟩ a).setCell ⟨g,1,none⟩ b).setCell ⟨g,2,none⟩ c).setCell ⟨g,3,none⟩ d).heap[g]?=_
 simp [World.setCell,Array.getElem?_modify,h']
theorem Outside.set4 (g:Nat) (w:World) (a b c d:Value):Outside g (g+1) w ((((w.setCell ⟨g,0,none⟩ a).setCell ⟨g,1,none⟩ b).setCell ⟨g,2,none⟩ c).setCell ⟨g,3,none⟩ d):=
 ((((Outside.refl _ _ _).setCell (p:=⟨g,0,none⟩) (le_ _) (Nat.lt_succ_self _) _).setCell (p:=⟨g,1,none⟩) (le_ _) (Nat.lt_succ_self _) _).setCell (p:=⟨g,2,none⟩) (le_ _) (Nat.lt_succ_self _) _).setCell (p:=⟨g,3,none⟩) (le_ _) (Nat.lt_succ_self _) _
theorem Blk.put {g:Nat} {cs:Array Value} {e:TypeId} {w:World} (h:Blk g (.cells cs e (0,0)) w) (j:Nat) (u:Value):Blk g (.cells (cs.setIfInBounds j u) e (0,0)) (w.setCell ⟨g,j,none⟩ u):=by
 have h':w.heap[g]?=_:=h
 show (w.setCell ⟨g,j,none⟩ u).heap[g]?=_
 simp [World.setCell,Array.getElem?_modify,h']
theorem Outside.put (g j:Nat) (w:World) (u:Value):Outside g (g+1) w (w.setCell ⟨g,j,none⟩ u):=(Outside.refl _ _ _).setCell (p:=⟨g,j,none⟩) (le_ _) (Nat.lt_succ_self _) _
theorem Blk.drew {g:Nat} {o:Obj} {w:World} (h:Blk g o w):Blk g o w.drew:=h
theorem Blk.al {g:Nat} {o x:Obj} {w:World} (h:Blk g o w):Blk g o (w.alloc x):=h.below ((B_ _ _).alloc (le_ _) _) h.lt
theorem al_below (w:World) (o:Obj):Below w.heap.size w (w.alloc o):=(B_ _ _).alloc (le_ _) _
theorem Outside.drw {lo hi:Nat} {w w':World} (h:Outside lo hi w w'):Outside lo hi w w'.drew:=⟨h.os,h.tape,h.output,h.size,h.block⟩
end Go.Proofs.YtfnnhimopokpnaaGreatDoor
