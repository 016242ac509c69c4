/- Lemmas for this seat; no condition. -/
import Derived.Test.YtfnnhimopokpnaaGreatDoorHDAA
import Derived.Test.YtfnnhimopokpnaaGreatDoorHDShelf
import Derived.Deep.WholeRow
import Derived.Lib.LazyBuf
namespace Go.Proofs.YtfnnhimopokpnaaGreatDoor
open Go.RowKit Proofs.Tryz
set_option maxRecDepth 100000
set_option maxHeartbeats 0
set_option linter.all false
variable {e:TypeId} {w w':World} {cs:List Value} {g c i n B lo hi cap sign lo' hi':Nat} {x0 x1 x2 x3 x4:Value} {txt s r:List UInt8} {xs es ys L R:List Int} {sum:PR} {x:Obj}
def zbs(c:Nat):Nat:=if c=120 then 97 else if c=121 then 98 else if c=122 then 99 else c
def six:List Value:=[.string ⟨#[120]⟩,.string ⟨#[97]⟩,.string ⟨#[121]⟩,.string ⟨#[98]⟩,.string ⟨#[122]⟩,.string ⟨#[99]⟩]
theorem Blk.setAt {t:Nat}(h:Blk t (.cells cs.toArray e) w)(k:Nat)(v:Value):Blk t (.cells (cs.set k v).toArray e) (w.setCell (p_ t k) v):=by
 have h':w.heap[t]?=_:=h
 show (w.setCell (p_ t k) v).heap[t]?=_
 simp[World.setCell,V_,h']
theorem zta(k:Nat)(h:k<256):IntKind.u8.wrap (k:Int)=k:=by
 simp[IntKind.wrap,IntKind.bits,IntKind.signed];omega
theorem zvs:Tryz.zeroCells277.toList.length=256:=by kernel_rfl
def zhe(k:Nat)(cs:List Value):Prop:=cs.length=256/\∀ j,j<k->cs[j]?=some (.int .u8 j)
theorem zhe.next {k:Nat}(h:zhe k cs)(hk:k<256):zhe (k+1) (cs.set k (.int .u8 k)):=by
 refine⟨by simpa using h.1,λj hj=>?_⟩;rcases bi_ j k with h1|h1
 ·rw[a6_ (by omega)]
  exact h.2 j h1
 ·obtain rfl:j=k:=by omega
  rw[List.getElem?_set_self (by rw[h.1];exact hk)]
def zk7(cs:List Value):Prop:=cs.length=256/\∀ j,j<256->cs[j]?=some (.int .u8 (zbs j:Nat))
theorem zhe.tab(h:zhe 256 cs):zk7 (((cs.set 122 (.int .u8 99)).set 121 (.int .u8 98)).set 120 (.int .u8 97)):=by
 refine⟨by simpa using h.1,λj hj=>?_⟩;have hl:=h.1;simp only[List.getElem?_set,bw_];unfold zbs
 split
 ·subst_vars;simp[hl]
 ·split
  ·subst_vars;simp[hl]
  ·split
   ·subst_vars;simp[hl]
   ·rw[h.2 j hj]
    rw[m_ (by omega),m_ (by omega),m_ (by omega)]
theorem zxe(g o cap:Nat)(d0 d1 d2:Value)(w:World)(hK:Blk g (.cells #[d0,d1,d2,.nilIface,.slice (q_ o 0) 6 cap] 254) w)(hS:∀ j,j<6->w.cell? (p_ o j)=six[j]?):
  Calls prog 252 #[.pointer (q_ g 0)] w (ι λv w'=>∃ cs,v=.iface 278 (.pointer (q_ w 0))/\Below w w w'/\Blk w (.cells cs.toArray 277) w'/\zk7 cs):=by
 have hgl:=hK.lt;have hol:o<w:=as_ w _ ((hS 0 (by omega)).trans rfl);have hst:=run_storeCells_new (P:=prog) w 277 Tryz.zeroCells277 Tryz.zeroCells277 (by kernel_rfl) rfl (by kernel_rfl);have c4:=hK.cell 4;have s0:=hS 0 (by omega);have s1:=hS 1 (by omega);have s2:=hS 2 (by omega);have s3:=hS 3 (by omega);have s4:=hS 4 (by omega);have s5:=hS 5 (by omega);simp only[six,List.getElem?_cons_zero,List.getElem?_cons_succ]at s0 s1 s2 s3 s4 s5;clear hS
 go_enter func252,ntmps252
 go_wp2
 go_loop [4,5] (λb i=>b=.bool true/\(i=.int .i64 0\/i=.int .i64 2\/i=.int .i64 4\/i=.int .i64 6)) (λ_ i=>6-(intOf i).toNat)
 case atStart=>exact⟨rfl,.inl rfl⟩
 case round=>
  obtain⟨rfl,rfl|rfl|rfl|rfl⟩:=hrel
  ·go_wp2
   go_round
   case rel=>exact⟨rfl,.inr (.inl rfl)⟩
   case measure=>simp[intOf]
  ·go_wp2
   go_round
   case rel=>exact⟨rfl,.inr (.inr (.inl rfl))⟩
   case measure=>simp[intOf]
  ·go_wp2
   go_round
   case rel=>exact⟨rfl,.inr (.inr (.inr rfl))⟩
   case measure=>simp[intOf]
  ·go_wp2
   go_loopw [61] (λi wr=>∃ (k:Nat) (cs:List Value),k<=256/\i=.int .i64 k/\Q_ (zhe k cs/\Blk w (.cells cs.toArray 277) wr/\Below w w wr)) (λi _=>256-(intOf i).toNat)
   case atStart=>
    refine⟨0,Tryz.zeroCells277.toList,by omega,rfl,H_ ⟨⟨zvs,λj hj=>by omega⟩,?_,(B_ _ _).alloc (le_ _) _⟩⟩;exact κ w _
   case round=>
    obtain⟨k,cs,hk,rfl,HI⟩:=hrel;by_cases hlt:k<256
    ·(have hu:=zta k hlt);(have hk1:(k:Int)<256:=by omega)
     have hcell:∃ x,wr.cell? (p_ w k)=some x:=by
      (have h:=HI.o.2.1.cell k;have hl:k<cs.length:=by rw[HI.o.1.1];exact hlt);exact⟨cs[k],by rw[h];simp[hl]⟩
     (obtain⟨x,hcell⟩:=hcell;have hfz:=HI.o.2.1.free k;go_wp2;go_roundw);(case rel=>exact⟨k+1,cs.set k (.int .u8 k),by omega,by go_num,H_ ⟨HI.o.1.next hlt,HI.o.2.1.setAt k _,HI.o.2.2.setCell (p:=p_ w k) (le_ _) _⟩⟩);case measure=>simp[intOf];omega
    ·(obtain rfl:k=256:=by omega);(obtain⟨hi1,hi2,hi3⟩:=HI.o;have HR:=H_ (a_ hi1 hi3);have s0':=(hi3.cell (p:=p_ o 0) hol).trans s0;have s1':=(hi3.cell (p:=p_ o 1) hol).trans s1;have s2':=(hi3.cell (p:=p_ o 2) hol).trans s2;have s3':=(hi3.cell (p:=p_ o 3) hol).trans s3;have s4':=(hi3.cell (p:=p_ o 4) hol).trans s4;have s5':=(hi3.cell (p:=p_ o 5) hol).trans s5;have⟨hne,hne2⟩:o≠w.heap.size/\w.heap.size≠o:=by omega);clear s0 s1 s2 s3 s4 s5 c4 hst;have h122:∃ x,wr.cell? (p_ w 122)=some x:=⟨_,(hi2.cell 122).trans (by simpa using hi1.2 122 (by omega))⟩;have h121:∃ x,wr.cell? (p_ w 121)=some x:=⟨_,(hi2.cell 121).trans (by simpa using hi1.2 121 (by omega))⟩;have h120:∃ x,wr.cell? (p_ w 120)=some x:=⟨_,(hi2.cell 120).trans (by simpa using hi1.2 120 (by omega))⟩;obtain⟨x2,h122⟩:=h122;obtain⟨x1,h121⟩:=h121;obtain⟨x0,h120⟩:=h120;have g2:=hi2.free 122;have g1:=hi2.free 121;have g0:=hi2.free 120;have HT:=H_ (a_ hi1.tab (a_ (((hi2.setAt 122 (.int .u8 99)).setAt 121 (.int .u8 98)).setAt 120 (.int .u8 97)) (((hi3.setCell (p:=p_ w 122) (le_ _) (.int .u8 99)).setCell (p:=p_ w 121) (le_ _) (.int .u8 98)).setCell (p:=p_ w 120) (le_ _) (.int .u8 97))));have b122:∀ hh:0<(ByteArray.mk #[122]).size,((ByteArray.mk #[122])[0]'hh).toNat=122:=λ_=>rfl
     (have b121:∀ hh:0<(ByteArray.mk #[121]).size,((ByteArray.mk #[121])[0]'hh).toNat=121:=λ_=>rfl);(have b120:∀ hh:0<(ByteArray.mk #[120]).size,((ByteArray.mk #[120])[0]'hh).toNat=120:=λ_=>rfl);(have b99:∀ hh:0<(ByteArray.mk #[99]).size,((ByteArray.mk #[99])[0]'hh).toNat=99:=λ_=>rfl);(have b98:∀ hh:0<(ByteArray.mk #[98]).size,((ByteArray.mk #[98])[0]'hh).toNat=98:=λ_=>rfl);(have b97:∀ hh:0<(ByteArray.mk #[97]).size,((ByteArray.mk #[97])[0]'hh).toNat=97:=λ_=>rfl);clear hi1 hi2 hi3 HI HR;go_wp2;go_loopw [8] (λi wx=>(i=.int .i64 4/\wx=wr)\/(i=.int .i64 2/\wx=(wr.setCell (p_ w 122) (.int .u8 99)))\/(i=.int .i64 0/\wx=((wr.setCell (p_ w 122) (.int .u8 99)).setCell (p_ w 121) (.int .u8 98)))\/(i=.int .i64 (-2)/\wx=(((wr.setCell (p_ w 122) (.int .u8 99)).setCell (p_ w 121) (.int .u8 98)).setCell (p_ w 120) (.int .u8 97)))) (λi _=>(intOf i+2).toNat)
     case atStart=>exact .inl ⟨rfl,rfl⟩
     case round=>
      rcases hrel with⟨rfl,rfl⟩|⟨rfl,rfl⟩|⟨rfl,rfl⟩|⟨rfl,rfl⟩
      ·go_wp2
       go_roundw
       (case rel=>simp);case measure=>simp[intOf]
      ·go_wp2
       go_roundw
       (case rel=>simp);case measure=>simp[intOf]
      ·go_wp2
       go_roundw
       (case rel=>simp);case measure=>simp[intOf]
      ·go_wp2
       go_ret;exact ι.mk _ rfl ⟨_,rfl,HT.o.2.2,HT.o.2.1,HT.o.1⟩
theorem disable(w:World):(callFunc 284 #[]).run prog w=.ok (.value (.tuple #[])) w:=run_call_mark0 func284 (by kernel_rfl) (by kernel_rfl) (by kernel_rfl) .disable (by kernel_rfl) w
theorem enable(w:World):(callFunc 286 #[]).run prog w=.ok (.value (.tuple #[])) w:=run_call_mark0 func286 (by kernel_rfl) (by kernel_rfl) (by kernel_rfl) .enable (by kernel_rfl) w
theorem acquire(a:Addr)(w:World):(callFunc 287 #[.pointer (some a)]).run prog w=.ok (.value (.tuple #[])) w:=run_call_marked func287 (by kernel_rfl) (by kernel_rfl) (by kernel_rfl) .acquire (by kernel_rfl) a w
theorem releaseMerge(a:Addr)(w:World):(callFunc 289 #[.pointer (some a)]).run prog w=.ok (.value (.tuple #[])) w:=run_call_marked func289 (by kernel_rfl) (by kernel_rfl) (by kernel_rfl) .releaseMerge (by kernel_rfl) a w
theorem zt6(a:Addr)(x:Value)(u:FrameMode)(w:World)(hc:w.cell? a=some x)(hz:w.frozen? a=false):
  CallsD prog 260 #[.pointer (some a),.bool true] u w λe u' w'=>u'=u/\(e=.returned (.tuple #[])/\w'=w.drew.setCell a (.int .u32 1)):=by
 have hc':w.drew.cell? a=some x:=by go_simp
 have hz':w.drew.frozen? a=false:=by go_simp
 have hst:=run_call_store (P:=prog) func275 (by kernel_rfl) (by kernel_rfl) (by kernel_rfl) (by kernel_rfl) (k:=.u32) (y:=1) hc' hz'
 go_enter_d func260,ntmps260
 go_wp2
 go_region_calls
 all_goals (go_end0;exact⟨rfl,rfl⟩)
theorem z0m(a:Addr)(u:FrameMode)(w:World)(hc:w.cell? a=some (.int .i32 1))(hz:w.frozen? a=false):
  CallsD prog 259 #[.pointer (some a)] u w λe u' w'=>u'=u/\(e=.returned (.tuple #[])/\w'=w.setCell a (.int .i32 0)):=by
 have hd:=disable;have he:=enable;have hr:=releaseMerge;have hadd:=run_call_add (P:=prog) func290 (by kernel_rfl) (by kernel_rfl) (by kernel_rfl) .i32 (by kernel_rfl) (y:=-1) (s:=0) hc hz (by simp[go_sem];rfl);have hcv:=run_convert_to_unsafe (P:=prog) (src:=310) (dst:=218) underlying310 underlying218 (by kernel_rfl) hc
 go_enter_d func259,ntmps259
 go_wp2
 go_end0
 go_wp2
 go_end0
 exact⟨rfl,rfl⟩
theorem zwz(a:Addr)(w:World)(hc:w.cell? a=some (.int .i32 0))(hz:w.frozen? a=false):
  Calls prog 258 #[.pointer (some a)] w λe w'=>e=.returned (.tuple #[])/\w'=w.setCell a (.int .i32 1):=by
 have hd:=disable;have he:=enable;have ha:=acquire;have hcas:=run_call_cas_hit (P:=prog) func285 (by kernel_rfl) (by kernel_rfl) (by kernel_rfl) .i32 (by kernel_rfl) (y:=1) hc hz;have hc':(w.setCell a (.int .i32 1)).cell? a=some (.int .i32 1):=ap_ w a _ hc;have hcv:=run_convert_to_unsafe (P:=prog) (src:=310) (dst:=218) underlying310 underlying218 (by kernel_rfl) hc'
 go_enter func258,ntmps258
 go_wp2
 first | go_end0 | (simp only[Exit.inBlock,Exit.then];refine d_ (results_none rfl _ _ _) rfl ?_) | refine d_ (results_none rfl _ _ _) rfl ?_
 go_wp2
 go_end0
 exact⟨rfl,rfl⟩
def zrf(g:Nat)(d0 d1 d2:Value)(w w':World):Prop:=
 ∃ (t:Nat) (cs:List Value),w.heap.size<=t/\Blk g (.cells #[d0,d1,d2,.iface 278 (.pointer (q_ t 0)),()] 254) w' /\
  Blk t (.cells cs.toArray 277) w'/\zk7 cs/\β g (g+1) w w'
theorem Blk.set34(h:Blk g (.cells #[x0,x1,x2,x3,x4] e (0,0)) w)(c d:Value):
  Blk g (.cells #[x0,x1,x2,c,d] e (0,0)) ((w.setCell (p_ g 3) c).setCell (p_ g 4) d):=by
 have h':w.heap[g]?=_:=h
 show ((w.setCell (p_ g 3) c).setCell (p_ g 4) d).heap[g]?=_
 simp[World.setCell,V_,h']
theorem β.set34(g:Nat)(w:World)(c d:Value):β g (g+1) w ((w.setCell (p_ g 3) c).setCell (p_ g 4) d):=
 ((β.refl _ _ _).setCell (p:=p_ g 3) (le_ _) (D_ _) _).setCell (p:=p_ g 4) (le_ _) (D_ _) _
theorem zxa(g o cap:Nat)(d0 d1 d2:Value)(w:World)(hK:Blk g (.cells #[d0,d1,d2,.nilIface,.slice (q_ o 0) 6 cap] 254) w)(hS:∀ j,j<6->w.cell? (p_ o j)=six[j]?):
  Calls prog 239 #[.pointer (q_ g 0)] w λe w'=>e=.returned (.tuple #[])/\zrf g d0 d1 d2 w w':=by
 have hlt:=hK.lt
 go_enter func239,ntmps239
 go_wp2_with fail
 refine(zxe g o cap d0 d1 d2 w hK hS).mono ?_;rintro e w1 ⟨v,rfl,cs,rfl,hb,ht,hcs⟩;have hK1:=hK.below hb hlt;have c3:=hK1.cell 3;have c4:=hK1.cell 4;have f3:=hK1.free 3;have f4:=hK1.free 4;have⟨wz,hwz⟩:=ex_ ((w1.setCell (p_ g 3) (.iface 278 (.pointer (q_ w 0)))).setCell (p_ g 4) ());have HZ:=H_ (hK1.set34 (.iface 278 (.pointer (q_ w 0))) ());have HO:=H_ (β.set34 g w1 (.iface 278 (.pointer (q_ w 0))) ());rw[<-hwz]at HZ HO;have HT:=H_ (ht.outside HO.o (.inr (by omega)));have HB:=H_ hb;have HC:=H_ hcs;clear hb ht hcs hK hK1 hS;go_wp2;simp only[<-hwz]
 go_end0
 exact⟨rfl,_,cs,le_ _,HZ.o,HT.o,HC.o,(β.of_below HB.o (le_ _)).trans HO.o⟩
theorem Blk.set01(h:Blk g (.cells #[x0,x1,x2,x3,x4] e (0,0)) w)(c d:Value):
  Blk g (.cells #[c,d,x2,x3,x4] e (0,0)) ((w.drew.setCell (p_ g 0) c).setCell (p_ g 1) d):=by
 have h':w.drew.heap[g]?=_:=h
 show ((w.drew.setCell (p_ g 0) c).setCell (p_ g 1) d).heap[g]?=_
 simp[World.setCell,V_,h']
theorem Blk.set1(h:Blk g (.cells #[x0,x1,x2,x3,x4] e (0,0)) w)(d:Value):
  Blk g (.cells #[x0,d,x2,x3,x4] e (0,0)) (w.setCell (p_ g 1) d):=by
 have h':w.heap[g]?=_:=h
 show (w.setCell (p_ g 1) d).heap[g]?=_
 simp[World.setCell,V_,h']
theorem β.set01(g:Nat)(w:World)(c d:Value):β g (g+1) w ((w.drew.setCell (p_ g 0) c).setCell (p_ g 1) d):=
 (((β.of_below (B_ w w).drew (le_ _))).setCell (p:=p_ g 0) (le_ _) (D_ _) _).setCell (p:=p_ g 1) (le_ _) (D_ _) _
abbrev Done(g:Nat)(d2:Value)(w w':World):Prop:=zrf g (.int .u32 1) (.int .i32 0) d2 w w'
theorem zzh(g o cap:Nat)(d2:Value)(w:World)(hne:o≠g)(hK:Blk g (.cells #[.int .u32 0,.int .i32 0,d2,.nilIface,.slice (q_ o 0) 6 cap] 254) w)(hS:∀ j,j<6->w.cell? (p_ o j)=six[j]?):
  Calls prog 251 #[.pointer (q_ g 0),.func (.func 239) #[.pointer (q_ g 0)] #[]] w λe w'=>e=.returned (.tuple #[])/\Done g d2 w w':=by
 have c1:=hK.cell 1;have f1:=hK.free 1;have HK:=H_ hK;have HS:=H_ hS;have⟨w1,hw1⟩:=ex_ (w.setCell (p_ g 1) (.int .i32 1));have hK1:Blk g (.cells #[.int .u32 0,.int .i32 1,d2,.nilIface,.slice (q_ o 0) 6 cap] 254) w1:=by rw[hw1];exact hK.set1 _
 have hS1:∀ j,j<6->w1.cell? (p_ o j)=six[j]?:=λj hj=>by
  rw[hw1];exact(ae_ _ _ _ _ (by intro h;injection h with h _;exact hne h.symm)).trans (hS j hj)
 have ho1:β g (g+1) w w1:=by rw[hw1];exact(β.refl _ _ _).setCell (p:=p_ g 1) (le_ _) (D_ _) _
 have c0:=hK1.cell 0;have hl:=run_call_load (P:=prog) func257 (by kernel_rfl) (by kernel_rfl) (by kernel_rfl) .u32 (by kernel_rfl) (w:=w1) (a:=p_ g 0) (x:=0) c0;have hnot:∀ (x:Bool) (w:World),(Op.unary .not (.bool x)).run prog w=.ok (.bool (!x)) w:=λ_ _=>rfl
 have HK1:=H_ hK1;have HS1:=H_ hS1;have HO1:=H_ ho1;have HW1:=H_ hw1;have hsz1:w1=w.heap.size:=by rw[hw1];simp[World.setCell]
 clear hK hS hK1 hS1 ho1 hw1 c0
 go_enter_defers func251,ntmps251
 go_wp2_with fail
 refine(zwz (p_ g 1) _ c1 f1).mono ?_;rintro e w' ⟨rfl,rfl⟩;simp only[<-HW1.o];clear c1 f1;go_wp2_with (first | (go_at_call 250;go_in) | (go_at_call 239;refine(zxa g o cap _ _ _ _ HK1.o HS1.o).mono ?_;rintro e w2 ⟨rfl,t,cs,h1,h2,h3,h4,h5⟩))
 have d0:=h2.cell 0;have z0:=h2.free 0;have d1:(w2.drew.setCell (p_ g 0) (.int .u32 1)).cell? (p_ g 1)=some (.int .i32 1):=(ae_ _ _ _ _ (by simp)).trans (h2.cell 1)
 have z1:(w2.drew.setCell (p_ g 0) (.int .u32 1)).frozen? (p_ g 1)=false:=by
  rw[World.frozen?_setCell];exact h2.free 1
 refine cv_ (f:=260) (args:=#[.pointer (q_ g 0),.bool true]) (by simp) (by simp[go_sem]) ?_;refine(zt6 (p_ g 0) (.int .u32 0) .returning _ d0 z0).mono ?_;rintro e u' w'' ⟨rfl,rfl,rfl⟩;refine cv_ (f:=259) (args:=#[.pointer (q_ g 1)]) (by simp[settle]) (by simp[go_sem]) ?_;refine(z0m (p_ g 1) _ _ d1 z1).mono ?_;rintro e u' w'' ⟨rfl,rfl,rfl⟩;have HZ:=H_ (h2.set01 (.int .u32 1) (.int .i32 0));have HOZ:=H_ (β.set01 g w2 (.int .u32 1) (.int .i32 0));have hgt:g<t:=by have:=HK.o.lt;omega
 have HF:=H_ (show Done g d2 w ((w2.drew.setCell (p_ g 0) (.int .u32 1)).setCell (p_ g 1) (.int .i32 0)) from ⟨t,cs,by omega,HZ.o,h3.outside HOZ.o (.inr (by omega)),h4,(HO1.o.trans h5).trans HOZ.o⟩);clear h2 h3 h4 h5 HZ HOZ d0 d1 z0 z1;simp[Leaves,settle,results,results251];exact HF.o
theorem zv4(g o cap:Nat)(d2:Value)(w:World)(hne:o≠g)(hK:Blk g (.cells #[.int .u32 0,.int .i32 0,d2,.nilIface,.slice (q_ o 0) 6 cap] 254) w)(hS:∀ j,j<6->w.cell? (p_ o j)=six[j]?):
  Calls prog 238 #[.pointer (q_ g 0),.func (.func 239) #[.pointer (q_ g 0)] #[]] w λe w'=>e=.returned (.tuple #[])/\Done g d2 w w':=by
 have c0:=hK.cell 0;have hl:=run_call_load (P:=prog) func257 (by kernel_rfl) (by kernel_rfl) (by kernel_rfl) .u32 (by kernel_rfl) (w:=w) (a:=p_ g 0) (x:=0) c0;have hnot:∀ (x:Bool) (w:World),(Op.unary .not (.bool x)).run prog w=.ok (.bool (!x)) w:=λ_ _=>rfl
 have HK:=H_ hK;have HS:=H_ hS;clear hK hS c0
 go_enter func238,ntmps238
 go_wp2_with (first | (go_at_call 250;go_in) | (go_at_call 251;refine(zzh g o cap d2 w hne HK.o HS.o).mono ?_;rintro e w' ⟨rfl,hd⟩))
 go_end0
 exact⟨rfl,hd⟩
def zao(c:UInt8):UInt8:=UInt8.ofNat (zbs c.toNat)
theorem z1a(h:c<256):zbs c<256:=by
 unfold zbs
 split
 ·omega
 ·split
  ·omega
  ·split<;>omega
theorem zod(c:UInt8):(zao c).toNat=zbs c.toNat:=by
 have h:zbs c.toNat<256:=z1a c.toNat_lt;simp[zao,UInt8.toNat_ofNat'];omega
theorem z1u {c:UInt8}(h:zbs c.toNat=c.toNat):zao c=c:=by
 apply cw_.1;rw[zod,h]
def Buf(b:Nat)(txt:List UInt8)(i:Nat)(w:World):Prop:=
 ∃ cs lo hi,w.heap[b]?=some (.cells cs 5 (lo,hi))/\txt.length<=cs.size/\cs.size<=lo/\∀ j (h:j<txt.length),cs[j]?=some (.int .u8 ((if j<i then zao txt[j] else txt[j]).toNat:Nat))
theorem Buf.cell {b:Nat}(h:Buf b txt i w)(j:Nat)(hj:j<txt.length):w.cell? (p_ b j)=some (.int .u8 ((if j<i then zao txt[j] else txt[j]).toNat:Nat)):=by
 obtain⟨cs,lo,hi,h1,_,_,h2⟩:=h;rw[World.cell?,h1];exact h2 j hj
theorem Buf.free {b:Nat}(h:Buf b txt i w)(j:Nat)(hj:j<txt.length):w.frozen? (p_ b j)=false:=by
 obtain⟨cs,lo,hi,h1,h2,h3,_⟩:=h;simp only[World.frozen?,h1];simp;omega
theorem Buf.next {b:Nat}(h:Buf b txt i w)(hi:i<txt.length):Buf b txt (i+1) (w.setCell (p_ b i) (.int .u8 (zbs txt[i].toNat:Nat))):=by
 obtain⟨cs,lo,h',h1,h2,h3,h4⟩:=h;refine⟨cs.setIfInBounds i (.int .u8 (zbs txt[i].toNat:Nat)),lo,h',?_,by simpa using h2,by simpa using h3,λj hj=>?_⟩
 ·simp[World.setCell,V_,h1]
 ·by_cases hji:j=i
  ·subst hji
   rw[Array.getElem?_setIfInBounds_self_of_lt (by omega),x_ (by omega),zod]
  ·rw[Array.getElem?_setIfInBounds_ne (by omega),h4 j hj]
   by_cases hlt:j<i
   ·rw[x_ hlt,x_ (by omega)]
   ·rw[m_ hlt,m_ (by omega)]
theorem Buf.skip {b:Nat}(h:Buf b txt i w)(hi:i<txt.length)(hs:zao txt[i]=txt[i]):Buf b txt (i+1) w:=by
 obtain⟨cs,lo,h',h1,h2,h3,h4⟩:=h;refine⟨cs,lo,h',h1,h2,h3,λj hj=>?_⟩;rw[h4 j hj];by_cases hji:j=i
 ·subst hji
  rw[m_ (by omega),x_ (by omega),hs]
 ·by_cases hlt:j<i
  ·rw[x_ hlt,x_ (by omega)]
  ·rw[m_ hlt,m_ (by omega)]
theorem Buf.new(w:World)(txt:List UInt8)(i:Nat)(hs:∀ j (h:j<txt.length),j<i->zao txt[j]=txt[j]):
  Buf w txt i (w.drew.alloc (.cells (bytesRow ⟨txt.toArray⟩ (grownCap w txt.length 0 5)) 5 ((bytesRow ⟨txt.toArray⟩ (grownCap w txt.length 0 5)).size,(bytesRow ⟨txt.toArray⟩ (grownCap w txt.length 0 5)).size+1))):=by
 refine⟨_,_,_,ba_ w.drew _,?_,le_ _,λj hj=>?_⟩
 ·simp[bytesRow]
 ·have h1:(bytesRow ⟨txt.toArray⟩ (grownCap w txt.length 0 5))[j]?=some (.int .u8 (txt[j].toNat:Nat)):=by
   simp[bytesRow,Array.getElem?_append,hj]
  rw[h1];by_cases hlt:j<i
  ·rw[x_ hlt,hs j hj hlt]
  ·rw[m_ hlt]
def zq4(txt:List UInt8)(i:Nat):Prop:=∀ j (h:j<txt.length),j<i->zao txt[j]=txt[j]
theorem zws(h:zq4 txt txt.length):txt.map zao=txt:=by
 apply bd_
 ·simp
 ·intro j h1 h2
  simpa using h j h2 h2
theorem zy1(txt:List UInt8):strOfNums (txt.map λc=>((zao c).toNat:Int))=⟨(txt.map zao).toArray⟩:=by
 unfold strOfNums
 congr 1
 simp[List.map_map,Function.comp_def]
theorem zuy(t:Nat)(cs:List Value)(txt:List UInt8)(w:World)(hT:Blk t (.cells cs.toArray 277) w)(hC:zk7 cs)(hl:txt.length<=199):
    c_ 330 #[.pointer (q_ t 0),.string ⟨txt.toArray⟩] w (.string ⟨(txt.map zao).toArray⟩):=by
  have HT:=H_ hT;have HC:=H_ hC;have htl:=hT.lt;clear hT hC;have hn0:∀ w:World,(binOp .eql 40 () ()).run prog w=.ok (.bool true) w:=λw=>run_eql_slice_nil (P:=prog) w 40 5 none 0 0 underlying40
  have hn1:∀ (a:Addr) (n c:Nat) (w:World),(binOp .eql 40 (.slice (some a) n c) ()).run prog w=.ok (.bool false) w:=λa n c w=>run_eql_slice_nil (P:=prog) w 40 5 (some a) n c underlying40
  go_enter func330,ntmps330
  go_wp2
  go_loopw [5,6] (λs i wr=>∃ k:Nat,k<=txt.length/\i=.int .i64 k/\Q_ (Below w w wr) /\
    ((s=.slice none 0 0/\Q_ (zq4 txt k))\/(∃ b cap,s=.slice (q_ b 0) txt cap/\txt.length<=cap/\w.heap.size<=b/\Q_ (Buf b txt k wr)))) (λ_ i _=>txt.length-(intOf i).toNat)
  case atStart=>exact⟨0,by omega,rfl,H_ (B_ _ _),.inl ⟨rfl,H_ (λj h h2=>by omega)⟩⟩
  case round=>
    obtain⟨k,hk,rfl,HB,hs⟩:=hrel;by_cases hlt:k<txt.length
    · have⟨c,hc⟩:=ex_ (txt[k])
      (have hget:∀ hh:k<(ByteArray.mk txt.toArray).size,(ByteArray.mk txt.toArray)[k]'hh=c:=λ_=>hc.symm);(have hcl:c.toNat<256:=c.toNat_lt;have hcl2:(c.toNat:Int)<256:=by omega)
      have htab:wr.cell? (p_ t c.toNat)=some (.int .u8 (zbs c.toNat:Nat)):=by
        have h:=((HT.o.below HB.o htl).cell c.toNat).trans (by simpa using HC.o.2 c.toNat hcl);exact h
      have HCC:=H_ hc;clear hc;cases hq:(((zbs c.toNat:Nat):Int) !=(c.toNat:Int))
      · have HS:=H_ (show zao txt[k]=txt[k] by
          (have h:((zbs c.toNat:Nat):Int)=c.toNat:=by simpa using hq);rw[<-HCC.o];exact z1u (by omega))
        rcases hs with⟨rfl,HN⟩|⟨b,cap,rfl,hcap,hb,HN⟩
        · go_wp2
          go_roundw
          case rel=>
            refine⟨k+1,by omega,by go_num,HB,.inl ⟨rfl,H_ λj h h2=>?_⟩⟩;rcases bi_ j k with h3|h3
            · exact HN.o j h h3
            · obtain rfl:j=k:=by omega
              exact HS.o
          case measure=>simp[intOf];omega
        · go_wp2
          go_roundw
          (case rel=>exact⟨k+1,by omega,by go_num,HB,.inr ⟨b,cap,rfl,hcap,hb,H_ (HN.o.skip hlt HS.o)⟩⟩);case measure=>simp[intOf];omega
      · rcases hs with⟨rfl,HN⟩ | ⟨b,cap,rfl,hcap,hb,HN⟩
        · have hcv:=run_bytes_of_string (P:=prog) wr 9 40 5 ⟨txt.toArray⟩ underlying9 underlying40 underlying5
          (have hge:=grownCap_ge wr txt.length 0 5;have hsz:(ByteArray.mk txt.toArray).size=txt.length:=by simp[ByteArray.size]);rw[hsz]at hcv;have⟨cp,hcp⟩:=ex_ (grownCap wr txt.length 0 5);have⟨wn,hwn⟩:=ex_ (wr.drew.alloc (.cells (bytesRow ⟨txt.toArray⟩ (grownCap wr txt.length 0 5)) 5 ((bytesRow ⟨txt.toArray⟩ (grownCap wr txt.length 0 5)).size,(bytesRow ⟨txt.toArray⟩ (grownCap wr txt.length 0 5)).size+1)));have HNEW:=H_ (Buf.new wr txt k HN.o);have hbn:Below wr wr wn:=by rw[hwn];exact(B_ _ _).drew.alloc (le_ _) _
          rw[<-hwn]at hcv HNEW;rw[<-hcp]at hcv hge;clear hwn hcp;have htab2:wn.cell? (p_ t c.toNat)=some (.int .u8 (zbs c.toNat:Nat)):=(hbn.cell (p:=p_ t c.toNat) (T_ htl HB.o.size)).trans htab;have hbc:=HNEW.o.cell k hlt;have hbf:=HNEW.o.free k hlt;have HBN:=HB.ts hbn;have hws:=HB.o.size;clear hbn;go_wp2;go_roundw
          case rel=>
            refine⟨k+1,by omega,by go_num,H_ (HBN.o.setCell (p:=p_ wr k) hws _),.inr ⟨wr,cp,rfl,hge,hws,H_ ?_⟩⟩;have h:=HNEW.o.next hlt;rw[<-HCC.o]at h;exact h
          case measure=>simp[intOf];omega
        · have hbc:=HN.o.cell k hlt
          (have hbf:=HN.o.free k hlt;go_wp2;go_roundw)
          case rel=>
            refine⟨k+1,by omega,by go_num,H_ (HB.o.setCell (p:=p_ b k) hb _),.inr ⟨b,cap,rfl,hcap,hb,H_ ?_⟩⟩;have h:=HN.o.next hlt;rw[<-HCC.o]at h;exact h
          case measure=>simp[intOf];omega
    · obtain rfl:k=txt.length:=by omega
      rcases hs with⟨rfl,HN⟩|⟨b,cap,rfl,hcap,hb,HN⟩
      · have HM:=H_ (zws HN.o)
        go_wp2;go_ret;exact⟨by rw[HM.o];rfl,HB.o⟩
      · have hcv := dk_ (P := prog) (w := wr) 40 5 underlying40 underlying5 b 0 txt.length cap (txt.map λc => ((zao c).toNat : Int)) (by simp) (by
          intro j hj;rw[U_,HN.o.cell j hj,x_ hj];simp[List.getD,hj]) 9 underlying9
        rw[zy1]at hcv;go_wp2;go_ret;exact⟨rfl,HB.o⟩
def zav(x:Int):Int:=if zal x then -1-(x-16) else x
def zcp:List (List UInt8):=[
 [40,120,43,121,41,43,122,61,120,43,40,121,43,122,41],
 [120,43,121,61,121,43,120],
 [120,43,120,61,120],
 [120,43,48,61,120],
 [40,120,59,121,41,59,122,61,120,59,40,121,59,122,41],
 [49,59,120,61,120],
 [120,59,49,61,120],
 [48,59,120,61,48],
 [120,59,48,61,48],
 [120,59,40,121,43,122,41,61,120,59,121,43,120,59,122],
 [40,120,43,121,41,59,122,61,120,59,122,43,121,59,122],
 [49,43,120,59,120,42,61,120,42],
 [49,43,120,42,59,120,61,120,42],
 [40,120,59,121,41,42,59,120,61,120,59,40,121,59,120,41,42],
 [40,120,43,121,41,42,61,120,42,59,40,121,59,120,42,41,42],
 [120,42,42,61,120,42],
 [120,42,59,120,42,61,120,42],
 [48,42,61,49],
 [49,42,61,49],
 [40,49,43,120,41,42,61,120,42],
 [120,43,120,59,121,42,61,120,59,121,42]]
def zc5(n:Nat)(l:Bool):List UInt8:=if l then (Lib.cut (zcp.getD n []) [61]).1 else (Lib.cut (zcp.getD n []) [61]).2.1
def zm0(txt:List UInt8):Option (List Int):=
 match ze7 txt.length (txt.map zao) with
 | some (e,[])=>if ν e then some e else none
 | _=>none
def Ν(n:Nat)(l:Bool):List Int:=((zm0 (zc5 n l)).getD []).map zav
theorem z0z:∀ n,n<21->∀ l,(zm0 (zc5 n l)).isSome=true/\(zc5 n l).length<=20:=by decide +kernel
theorem z1y:∀ n,n<21->(zcp.getD n []).length<=30:=by decide +kernel
theorem zkn(h:n<21)(l:Bool):∃ e,ze7 (zc5 n l).length ((zc5 n l).map zao)=some (e,[])/\ν e=true/\Ν n l=e.map zav/\(zc5 n l).length<=20:=by
 obtain⟨h1,h2⟩:=z0z n h l;obtain⟨e,he⟩:=d7_.1 h1;refine⟨e,?_,?_,by simp[Ν,he],h2⟩
 all_goals
  unfold zm0 at he
  split at he
  ·rename_i e' heq
   split at he
   ·injection he with he
    subst he
    assumption
   ·cases he
  ·cases he
def zj4(w:World):Prop:=∃ rb off cap,w.cell? (p_ 1 0)=some (.slice (q_ rb off) 21 cap)/\∀ j,j<21->w.cell? (p_ rb (off+j))=some (.string ⟨(zcp.getD j []).toArray⟩)
theorem zj4.below(h:zj4 w)(hb:Below w w w'):zj4 w':=by
 obtain⟨rb,off,cap,h1,h2⟩:=h;exact⟨rb,off,cap,(hb.cell (as_ w _ h1)).trans h1,λj hj=>(hb.cell (as_ w _ (h2 j hj))).trans (h2 j hj)⟩
def zh8(w:World):Prop:=∃ m,w.cell? (p_ 4 0)=some (.int .i64 m)
theorem zh8.below(h:zh8 w)(hb:Below w w w'):zh8 w':=by
 obtain⟨m,h⟩:=h;exact⟨m,(hb.cell (as_ w _ h)).trans h⟩
structure zax(w:World):Prop where
 map:zdc w
 rules:zj4 w
 most:zh8 w
theorem zax.below(h:zax w)(hb:Below w w w'):zax w':=⟨h.map.below hb,h.rules.below hb,h.most.below hb⟩
theorem zww(l p:List UInt8)(s sep:ByteArray)(hs:s=⟨l.toArray⟩)(hp:sep=⟨p.toArray⟩)(w:World)(hE:zh8 w)(hl:l.length<=2097152):
  c_ 127 #[.string s,.string sep] w (.tuple #[.string ⟨(Lib.cut l p).1.toArray⟩,.string ⟨(Lib.cut l p).2.1.toArray⟩,.bool (Lib.cut l p).2.2]):=by
 subst hs hp;obtain⟨m,hm⟩:=hE;refine(Tryz.strings_Cut ⟨l.toArray⟩ ⟨p.toArray⟩ m w (by show l.toArray.size<_;simp;omega) hm).mono ?_;rintro e w' ⟨rfl,n,rfl⟩;exact⟨rfl,ai_ (B_ _ _) _⟩
def Rd(g:Nat)(w:World)(c:Nat):Prop:=
 ∃ (a:Option Addr) (cap p:Nat) (xs:List Int),w.heap[g]?=some (.cells #[.slice a xs cap,.int .i64 p] 96 (0,0))/\p<=c/\xs.length<=2000 /\
  (∀ x∈xs,0<=x/\x<=255)/\Sl 1 0 g w (.slice a xs cap) xs.length (xs.map (Value.int .u8))
theorem Rd.mono {c':Nat}(h:Rd g w c)(hc:c<=c'):Rd g w c':=by
 obtain⟨a,cap,p,xs,h1,h2,h3⟩:=h;exact⟨a,cap,p,xs,h1,by omega,h3⟩
theorem Rd.lt(h:Rd g w c):g<w:=by
 obtain⟨a,cap,p,xs,h1,_⟩:=h;exact(L_.1 h1).1
theorem Rd.keep(h:Rd g w c)(hs:w<=w'.heap.size)(hb:∀ k,k<=g->w'.heap[k]?=w.heap[k]?):Rd g w' c:=by
 obtain⟨a,cap,p,xs,h1,h2,h3,h4,h5⟩:=h;refine⟨a,cap,p,xs,by rw[hb g (le_ _)];exact h1,h2,h3,h4,?_⟩;obtain⟨a',cap',e1,e2,e3,e4,e5,e6⟩:=h5;refine⟨a',cap',e1,e2,e3,e4,e5,λi hi=>?_⟩;obtain⟨b,off,f1,f2,f3,f4,f5⟩:=e6 i hi;exact⟨b,off,f1,f2,f3,by omega,by rw[ag_ (w:=w) (a:=p_ b (off+i)) (hb b (by omega))];exact f5⟩
theorem Rd.below(h:Rd g w c)(hb:Below B w w')(hB:g<B):Rd g w' c:=
 h.keep hb.size λk hk=>hb.block k (by omega)
theorem Rd.outside(h:Rd g w c)(hb:β lo hi w w')(hB:g<lo):Rd g w' c:=by
 have:=h.lt;exact h.keep hb.size λk hk=>hb.block k (by omega) (by omega)
def SlB(lo hi:Nat)(w:World)(v:Value)(xs:List Int):Prop:=Sl 1 lo hi w v xs.length (xs.map (Value.int .u8))/\∀ x∈xs,0<=x/\x<=255
theorem Sl.get {sz:Nat} {a:Option Addr}(h:Sl sz lo hi w (.slice a n cap) n cs)(i:Nat)(hi':i<cs.length):
  ∃ b off,a=some ⟨b,off,none⟩/\lo<=b/\b<hi/\b<w.heap.size/\w.cell? (p_ b (off+i))=cs[i]?:=by
 obtain⟨a',cap',e,_,_,_,_,hc⟩:=h;injection e with e1 _ _;subst e1;exact hc i hi'
theorem Sl.getByte {a:Option Addr}(h:Sl 1 lo hi w (.slice a n cap) n (xs.map (Value.int .u8)))(hx:∀ x∈xs,0<=x/\x<=255)(i:Nat)(hi':i<xs.length):
  ∃ b off x,a=some ⟨b,off,none⟩/\b<hi/\b<w.heap.size/\w.cell? (p_ b (off+i))=some (.int .u8 x)/\0<=x/\x<=255:=by
 obtain⟨b,off,e,_,e2,e3,e4⟩:=h.get i (by simpa using hi');exact⟨b,off,xs[i],e,e2,e3,by rw[e4];simp[hi'],hx _ (u_ hi')⟩
def InR(n x:Int):Prop:=0<=x/\(x<n\/x=0)
theorem Δ(g c:Nat)(n:Int)(w:World)(h:Rd g w c)(hc:c<=1000000000000):
  Calls prog 72 #[.pointer (q_ g 0),.int .i64 n] w (zc7 λx w'=>InR n x/\β g (g+1) w w'/\Rd g w' (c+1)):=by
 have hg:=h.lt;obtain⟨a,cap,p,xs,h1,h2,h3,h4,h5⟩:=h;have c0:w.cell? (p_ g 0)=some (.slice a xs cap):=by rw[al_ h1];rfl
 have c1:w.cell? (p_ g 1)=some (.int .i64 p):=by rw[al_ h1];rfl
 have f1:w.frozen? (p_ g 1)=false:=bs_ h1 1
 have HR:∀ m,Q_ (β g (g+1) w ((w.setCell (p_ g 1) (.int .i64 (p+1))).drewN m)/\Rd g ((w.setCell (p_ g 1) (.int .i64 (p+1))).drewN m) (c+1)):=by
  intro m;have ho:β g (g+1) w (w.setCell (p_ g 1) (.int .i64 (p+1))):=(β.refl _ _ _).setCell (p:=p_ g 1) (le_ _) (D_ _) _;refine H_ ⟨⟨ho.os,ho.tape,ho.output,ho.size,ho.block⟩,a,cap,p+1,xs,?_,by omega,h3,h4,?_⟩
  ·show (w.setCell (p_ g 1) (.int .i64 (p+1))).heap[g]?=_
   simp[World.setCell,V_,h1]
  ·have:=h5.outside ho (.inl (le_ _))
   exact this
 clear h1;by_cases hn:n<1
 ·go_enter func72,ntmps72
  go_wp2;go_ret;exact zc7.mk 0 rfl ⟨⟨by omega,.inr rfl⟩,(HR 0).o⟩
 ·by_cases hl:xs.length=0
  ·have hl':((xs.length:Int)==0)=true:=by simp[hl]
   clear hl
   go_enter func72,ntmps72
   go_wp2;go_ret;exact zc7.mk 0 rfl ⟨⟨by omega,.inr rfl⟩,(HR 0).o⟩
  ·have hl':((xs.length:Int)==0)=false:=by simp[hl]
   by_cases hk:p<xs.length
   ·(obtain⟨b,off,x,rfl,hb1,hb2,hcell,hx1,hx2⟩:=h5.getByte h4 p hk);clear h5
    go_enter func72,ntmps72
    go_wp2;go_ret;exact zc7.mk (x%n) rfl ⟨⟨Int.emod_nonneg _ (by omega),.inl (Int.emod_lt_of_pos _ (by omega))⟩,(HR 0).o⟩
   ·(obtain⟨b,off,x,rfl,hb1,hb2,hcell,hx1,hx2⟩:=h5.getByte h4 (p%xs.length) (eh_ _ (by omega)))
    obtain⟨q,hq,hq2⟩:∃ q:Nat,((p:Int)*7+3)%(xs.length:Int)=(q:Int)/\q<xs.length:=
     ⟨(p*7+3)%xs.length,by rw[Int.natCast_emod];simp,eh_ _ (by omega)⟩
    (obtain⟨b',off',y,e,hb1',hb2',hcell',hy1,hy2⟩:=h5.getByte h4 q hq2;injection e with e;injection e with e1 e2;subst e1 e2;have hm1:p%xs.length<xs.length:=(eh_ _ (by omega)))
    obtain⟨z,hz,hz1,hz2⟩:∃ z:Int,(p:Int)/(xs.length:Int)=z/\0<=z/\z<=p:=
     ⟨_,rfl,Int.ediv_nonneg (by omega) (by omega),Int.ediv_le_self _ (by omega)⟩
    clear h5
    go_enter func72,ntmps72
    go_wp2
    go_quiet (fail)
    go_wp2;go_ret;have hb:=zz2 (x*131+y*1117+(p:Int)*29+z*53) ((x*131+y*1117+(p:Int)*29+z*53)/64) (by omega) (by omega) (by omega) (by omega);exact zc7.mk _ rfl ⟨⟨Int.tmod_nonneg _ hb,.inl (Int.tmod_lt_of_pos _ (by omega))⟩,(HR _).o⟩
theorem z02(v:Value)(xs:List Int)(w:World)(h:SlB 0 w w v xs):
  Calls prog 45 #[v] w (ι λx w'=>∃ g,x=.pointer (q_ g 0)/\w.heap.size<=g/\Below w w w'/\Rd g w' 0):=by
 obtain⟨⟨a,cap,rfl,hcap,hcm,hlen0,hnone,hc⟩,hx⟩:=h;unfold maxLen at hcm;by_cases hl:xs.length<=2000
 ·have HR:Q_ (Rd w (w.alloc (.cells #[.slice a xs cap,(0:Int)] 96)) 0):=by
   have hb:Below w w (w.alloc (.cells #[.slice a xs cap,(0:Int)] 96)):=(B_ _ _).alloc (le_ _) _;exact H_ ⟨a,cap,0,xs,ba_ w _,le_ _,hl,hx,zch ⟨a,cap,rfl,hcap,hcm,hlen0,hnone,hc⟩ hb (le_ _)⟩
  clear hx hc hnone hlen0
  go_enter func45,ntmps45
  go_wp2;go_ret;exact ι.mk _ rfl ⟨_,rfl,le_ _,(B_ _ _).alloc (le_ _) _,HR.o⟩
 ·obtain⟨b,off,rfl,hb0,hb1,hb2,_⟩:=hc 0 (by simp;omega)
  have hsl:Sl 1 0 w w (.slice (q_ b off) 2000 cap) 2000 ((xs.take 2000).map (Value.int .u8)):=by
   refine⟨_,cap,rfl,by omega,by unfold maxLen;exact hcm,by simp;omega,(by intro h;cases h),λi hi=>?_⟩;obtain⟨b',off',e,h1,h2,h3,h4⟩:=hc i (by simp at hi ⊢;omega);refine⟨b',off',e,h1,h2,h3,?_⟩;rw[h4];simp at hi;simp[hi]
  have hlen:(xs.take 2000).length=2000:=by simp;omega
  have HR:Q_ (Rd w (w.alloc (.cells #[.slice (q_ b off) 2000 cap,(0:Int)] 96)) 0):=by
   have hb:Below w w (w.alloc (.cells #[.slice (q_ b off) 2000 cap,(0:Int)] 96)):=(B_ _ _).alloc (le_ _) _;refine H_ ⟨some ⟨b,off,none⟩,cap,0,xs.take 2000,by rw[hlen];exact ba_ w _,le_ _,by omega,λx hx'=>hx x (a7_ hx'),?_⟩;rw[hlen];exact zch hsl hb (le_ _)
  clear hx hc hnone hlen hsl hlen0
  go_enter func45,ntmps45
  go_wp2;go_ret;exact ι.mk _ rfl ⟨_,rfl,le_ _,(B_ _ _).alloc (le_ _) _,HR.o⟩
theorem zf7(g c:Nat)(n:Int)(w:World)(h:Rd g w c)(hc:c<=1000000000000)(hn:n<=1000000):
  Calls prog 73 #[.pointer (q_ g 0),.int .i64 n] w (za4 λ_ w'=>β g (g+1) w w'/\Rd g w' (c+1)):=by
 by_cases h0:0<n
 ·go_enter func73,ntmps73
  go_wp2_with (go_at_call 72;refine(Δ g c _ _ h hc).mono ?_;rintro e w1 ⟨x,rfl,h1,h2,h3⟩)
  go_ret;exact za4.mk _ rfl ⟨h2,h3⟩
 ·go_enter func73,ntmps73
  go_wp2;go_ret;exact za4.mk _ rfl ⟨β.refl _ _ _,h.mono (by omega)⟩
theorem zt8(g c:Nat)(n:Int)(w:World)(h:Rd g w c)(hc:c<=1000000000000)(hn:n<=1000000):
  Calls prog 73 #[.pointer (q_ g 0),.int .i64 n] w (za4 λb w'=>(b=true->0<n)/\β g (g+1) w w'/\Rd g w' (c+1)):=by
 by_cases h0:0<n
 ·go_enter func73,ntmps73
  go_wp2_with (go_at_call 72;refine(Δ g c _ _ h hc).mono ?_;rintro e w1 ⟨x,rfl,h1,h2,h3⟩)
  go_ret;exact za4.mk _ rfl ⟨λ_=>h0,h2,h3⟩
 ·go_enter func73,ntmps73
  go_wp2;go_ret;exact za4.mk _ rfl ⟨(λhb=>by cases hb),β.refl _ _ _,h.mono (by omega)⟩
def zgm(g c:Nat)(w:World)(v:Value)(w':World)(most:Nat):Prop:=
 ∃ xs:List Int,γ w w' 3 w' v xs/\xs.length<=most/\β g (g+1) w w'/\Rd g w' c
def KR(g:Nat)(w:World)(txt s:List UInt8):Prop:=
 w.heap[g]?=some (.cells #[.string ⟨txt.toArray⟩,.int .i64 ((txt.length-s.length:Nat):Int)] 87 (0,0))/\s=txt.drop (txt.length-s.length)/\s.length<=txt.length/\txt.length<=199
theorem KR.lt(h:KR g w txt s):g<w:=(L_.1 h.1).1
theorem KR.below(h:KR g w txt s)(hb:Below B w w')(hB:g<B):KR g w' txt s:=⟨by rw[hb.block g hB];exact h.1,h.2⟩
theorem KR.outside(h:KR g w txt s)(hb:β lo hi w w')(hB:g<lo):KR g w' txt s:=⟨by rw[hb.block g h.lt (.inl hB)];exact h.1,h.2⟩
def zds(B:Nat)(w:World):Prop:=0<B/\∃ bm,bm<B/\B<=w.heap.size/\w.cell? (p_ 0 0)=some (.map (some bm)) /\
 ∀ w':World,w'.heap[bm]?=w.heap[bm]?->∀ t:Nat,t<16 ->
  (Instr.lookup 109 (.map (some bm)) t true).run prog w'=.ok (match zej t with | some s=>.tuple #[.string ⟨s.toArray⟩,.bool true] | none=>.tuple #[.string ⟨#[]⟩,.bool false]) w'
theorem zds.mapT(h:zds B w):zdc w:=by
 obtain⟨_,bm,h1,h2,h3,h4⟩:=h;exact⟨bm,h3,by omega,h4⟩
theorem zdc.mapB(h:zdc w):zds w w:=by
 obtain⟨bm,h1,h2,h3⟩:=h;exact⟨as_ w _ h1,bm,h2,le_ _,h1,h3⟩
theorem zds.keep(h:zds B w)(hs:w<=w'.heap.size)(hb:∀ k,k<B->w'.heap[k]?=w.heap[k]?):zds B w':=by
 obtain⟨hg,bm,h1,h2,h3,h4⟩:=h;refine⟨hg,bm,h1,by omega,?_,λw2 h=>h4 w2 (h.trans (hb bm h1))⟩;rw[ag_ (w:=w) (a:=p_ 0 0) (hb _ hg)];exact h3
theorem zds.below {C:Nat}(h:zds B w)(hb:Below C w w')(hC:B<=C):zds B w':=h.keep hb.size λk hk=>hb.block k (by omega)
theorem zds.outside(h:zds B w)(hb:β lo hi w w')(hC:B<=lo):zds B w':=h.keep hb.size λk hk=>by
 obtain⟨_,_,_,h2,_⟩:=h;exact hb.block k (by omega) (.inl (by omega))
theorem β.drawn(lo hi:Nat)(w:World)(n:Nat):β lo hi w (w.drewN n):=⟨rfl,rfl,rfl,le_ _,λ_ _ _=>rfl⟩
def zbx(c:Int):List UInt8->Bool
 | []=>false
 | d :: _=>(d.toNat:Int)==c
theorem KR.step {d:UInt8}(h:KR g w txt (d :: r))(m:Nat):KR g ((w.drewN m).setCell (p_ g 1) (.int .i64 (((txt.length-(d :: r).length:Nat):Int)+1))) txt r:=by
 obtain⟨h1,h2,h3,h4⟩:=h;simp only[I_]at h3;have e1:txt.length-r.length=txt.length-(r.length+1)+1:=by omega
 refine⟨?_,?_,by omega,h4⟩
 ·have h':(w.drewN m).heap[g]?=_:=h1
  show ((w.drewN m).setCell (p_ g 1) _).heap[g]?=_
  simp only[World.setCell,V_,h',d6_];simp only[I_];rw[e1];simp
 ·have hlt:txt.length-(r.length+1)<txt.length:=by omega
  simp only[I_]at h2;rw[y_ hlt]at h2;injection h2 with _ h2;rw[e1];exact h2
theorem zfn(g:Nat)(w:World)(txt s:List UInt8)(c:Int)(h:KR g w txt s):
  Calls prog 120 #[.pointer (q_ g 0),.int .u8 c] w (za4 λb w'=>b=zbx c s/\KR g w' txt (if b then s.tail else s)/\β g (g+1) w w'):=by
 have HK:=H_ h;obtain⟨h1,h2,h3,h4⟩:=h;have c0:w.cell? (p_ g 0)=some (.string ⟨txt.toArray⟩):=by rw[al_ h1];rfl
 have c1:w.cell? (p_ g 1)=some (.int .i64 ((txt.length-s.length:Nat):Int)):=by rw[al_ h1];rfl
 have f1:w.frozen? (p_ g 1)=false:=bs_ h1 1;clear h1;cases s with
 | nil=>
  have⟨n,hn⟩:=ex_ txt.length;simp only[an_,d8_]at c1;clear h2 h3 hn
  go_enter func120,ntmps120
  go_wp2
  go_quiet (fail)
  go_wp2;go_ret;exact za4.mk _ rfl ⟨rfl,HK.o,β.drawn _ _ _ _⟩
 | cons d r=>
  have⟨n,hn⟩:=ex_ (txt.length-(d :: r).length);have hlt:n<txt.length:=by simp at h3;simp at hn;omega
  have hd:txt[n]=d:=by
   rw[<-hn,y_ hlt]at h2;injection h2 with h2 _;exact h2.symm
  rw[<-hn]at c1;have HN:=H_ hn;clear h2 h3 hn;have hget:∀ hh:n<(ByteArray.mk txt.toArray).size,(ByteArray.mk txt.toArray)[n]'hh=d:=λ_=>hd
  have hlt2:(n:Int)<(txt.length:Int):=by omega
  clear hd;cases hq:((d.toNat:Int)==c)
  ·go_enter func120,ntmps120
   go_wp2
   go_quiet (fail)
   go_wp2;go_ret;exact za4.mk false rfl ⟨hq.symm,HK.o,β.drawn _ _ _ _⟩
  ·go_enter func120,ntmps120
   go_wp2
   go_quiet (fail)
   go_wp2;go_ret;refine za4.mk true rfl ⟨hq.symm,?_,?_⟩
   ·(have:=HK.o.step nq);rw[<-HN.o]at this;exact this
   ·exact(β.drawn _ _ _ _).setCell (p:=p_ g 1) (le_ _) (D_ _) _
def zdg(p:PR):Prop:=∀ s e r,p s=some (e,r)->e.length+r.length<=s.length
theorem zgw(h:zdg sum):zdg (ze1 sum):=by
 intro s e r hs;cases s with
 | nil=>simp[ze1] at hs
 | cons c t=>
  simp only[ze1]at hs
  split at hs
  ·split at hs
   ·rename_i e' d r2 he
    split at hs
    ·injection hs with hs
     injection hs with h1 h2;subst h1 h2;have:=h _ _ _ he;simp at this ⊢;omega
    ·cases hs
   ·cases hs
  ·split at hs
   ·cases hs
   ·split at hs
    ·injection hs with hs
     injection hs with h1 h2;subst h1 h2;simp;omega
    ·split at hs
     ·injection hs with hs
      injection hs with h1 h2;subst h1 h2;simp;omega
     ·cases hs
theorem zr7:∀ (s:List UInt8) (e e':List Int) (r:List UInt8),zbz e s=(e',r)->e'.length+r.length<=e.length+s.length
 | [],e,e',r,h=>by simp[zbz] at h;simp[h.1,h.2]
 | c :: t,e,e',r,h=>by
  simp only[zbz]at h
  split at h
  ·have:=zr7 t _ _ _ h
   simp at this ⊢;omega
  ·injection h with h1 h2
   subst h1 h2;exact le_ _
theorem zim {single:PR}(h:zdg single):zdg (zgg single):=by
 intro s e r hs;simp only[zgg,W_]at hs;obtain⟨⟨e1,r1⟩,h1,h2⟩:=hs;have:=h _ _ _ h1;have h3:e.length+r.length<=e1.length+r1.length:=zr7 _ _ _ _ h2;omega
theorem zpr {op:Int} {part:PR}(h:zdg part):∀ (n:Nat) (s:List UInt8) (e e':List Int) (r:List UInt8),zbk sign op part n e s=some (e',r)->e'.length+r.length<=e.length+s.length
 | n,[],e,e',r,hs=>by cases n<;>(simp[zbk] at hs;simp[hs.1,hs.2])
 | 0,c :: t,e,e',r,hs=>by
  simp only[zbk]at hs
  split at hs
  ·cases hs
  ·injection hs with hs
   injection hs with h1 h2;subst h1 h2;exact le_ _
 | n+1,c :: t,e,e',r,hs=>by
  simp only[zbk]at hs
  split at hs
  ·simp only[M_]at hs
   obtain⟨⟨e1,r1⟩,h1,h2⟩:=hs;have h3:=h _ _ _ h1;have h4:e'.length+r.length<=(e++e1++[op]).length+r1.length:=zpr h n _ _ _ _ h2;simp at h4 ⊢;omega
  ·injection hs with hs
   injection hs with h1 h2;subst h1 h2;exact le_ _
theorem zjs {op:Int} {part:PR}(h:zdg part):zdg (zd4 sign op part):=by
 intro s e r hs;simp only[zd4,M_]at hs;obtain⟨⟨e1,r1⟩,h1,h2⟩:=hs;have h3:=h _ _ _ h1;have h4:e.length+r.length<=e1.length+r1.length:=zpr h _ _ _ _ _ h2;omega
theorem zes:∀ n,zdg (ze7 n)
 | 0=>by intro s e r h;cases h
 | n+1=>zjs (zjs (zim (zgw (zes n))))
def ReadR(g:Nat)(w:World)(txt:List UInt8)(e:List Int)(r:List UInt8):Ending->World->Prop:=
 ι λv w'=>γ w w' 3 w' v e/\KR g w' txt r/\β g (g+1) w w'
def zfm(f:FuncId)(p:PR)(n:Nat):Prop:=∀ (B g:Nat) (w:World) (txt s:List UInt8) (e:List Int) (r:List UInt8),KR g w txt s->s.length<=n->B<=g->zds B w->p s=some (e,r) ->
 Calls prog f #[.pointer (q_ g 0)] w (ReadR g w txt e r)
theorem zoh {c:UInt8} {t:List UInt8} {e:List Int}(h:ze1 sum (c :: t)=some (e,r)):
  (c.toNat=40/\∃ d,d.toNat=41/\sum t=some (e,d :: r)) \/
  (c.toNat≠40/\c.toNat≠33/\c.toNat≠91/\r=t/\((97<=c.toNat/\c.toNat<=99/\e=[16+((c.toNat:Int)-97)])\/(¬(97<=c.toNat/\c.toNat<=99)/\∃ k:Nat,ze0 [c]=some k/\e=[(k:Int)]))):=by
 simp only[ze1]at h
 split at h
 ·rename_i hc
  split at h
  ·rename_i e' d r2 he
   split at h
   ·rename_i hd
    injection h with h;injection h with h1 h2;subst h1 h2;exact .inl ⟨hc,d,hd,he⟩
   ·cases h
  ·cases h
 ·rename_i hc
  split at h
  ·cases h
  ·rename_i hc2
   split at h
   ·rename_i hc3
    injection h with h;injection h with h1 h2;exact .inr ⟨hc,by omega,by omega,h2.symm,.inl ⟨hc3.1,hc3.2,h1.symm⟩⟩
   ·rename_i hc3
    split at h
    ·rename_i k hk
     injection h with h;injection h with h1 h2;exact .inr ⟨hc,by omega,by omega,h2.symm,.inr ⟨hc3,k,hk,h1.symm⟩⟩
    ·cases h
theorem pre1(c d:UInt8)(t:List UInt8)(h:d.toNat≠c.toNat):Lib.hasPrefix (ByteArray.mk (d :: t).toArray).data.toList (ByteArray.mk #[c]).data.toList=false:=by
 have hne:(c==d)=false:=by
  rw[b2_];intro e;exact h (by rw[e])
 show List.isPrefixOf [c] (d :: t)=false
 simp[List.isPrefixOf,hne]
theorem ext01(c:UInt8)(t:List UInt8):(ByteArray.mk (c :: t).toArray).extract 0 1=⟨#[c]⟩:=by
 apply cd_;simp[bo_]
theorem extN(txt:List UInt8)(n:Nat):(ByteArray.mk txt.toArray).extract n txt.length=⟨(txt.drop n).toArray⟩:=by
 apply cd_;simp[bo_];rw[ay_ (by simp)]
theorem zvg(sum:PR)(n:Nat)(hsum:zfm 68 sum n):zfm 193 (ze1 sum) (n+1):=by
 intro B g w txt s e r hk hn hB hM hp;have HM:=H_ hM;have HK:=H_ hk;have hg:=hk.lt;cases s with
 | nil=>simp[ze1] at hp
 | cons c t=>
  have hnt:t.length<=n:=by simpa using hn
  have HS:=H_ hsum;clear hsum hM hk hn;rcases zoh hp with⟨hc,d,hd,hs⟩|⟨hc,h33,h91,rfl,hrest⟩
  ·have HP:=H_ hs
   have q1:zbx 40 (c :: t)=true:=by simp[zbx];omega
   have q2:zbx 41 (d :: r)=true:=by simp[zbx];omega
   clear hp hs hc hd
   go_enter func193,ntmps193
   go_wp2_with fail
   refine(zfn g _ txt (c :: t) 40 HK.o).mono ?_;rintro e1 w1 ⟨b,rfl,rfl,hk,ho⟩;rw[q1]at hk ⊢;replace HK:=H_ (show KR g w1 txt t from hk);have HO:=H_ ho;replace HM:=H_ (HM.o.outside ho hB);clear hk ho;go_wp2_with fail
   refine(HS.o B g _ txt t e (d :: r) HK.o hnt hB HM.o HP.o).mono ?_;rintro e1 w2 ⟨v2,rfl,hown,hk,ho⟩;replace HK:=H_ hk;have HV:=H_ hown;have hs1:=HO.o.size;replace HO:=H_ (HO.o.trans ho);clear hk ho hown;go_wp2_with fail
   refine(zfn g _ txt (d :: r) 41 HK.o).mono ?_;rintro e1 w3 ⟨b,rfl,rfl,hk,ho⟩;rw[q2]at hk ⊢;replace HV:=H_ ((HV.o.outside ho (.inr (by omega))).wide2' ho.size);replace HK:=H_ (show KR g w3 txt r from hk);replace HO:=H_ (HO.o.trans ho);clear hk ho;go_wp2;go_ret;exact ι.mk _ rfl ⟨HV.o.wide2 hs1 (le_ _),HK.o,HO.o⟩
  ·have q1:zbx 40 (c :: r)=false:=by simp[zbx];omega
   have P1:=H_ (pre1 33 c r (by simpa using h33));have P2:=H_ (pre1 91 c r (by simpa using h91));clear hp h33 h91 hc
   go_enter func193,ntmps193
   go_wp2_with fail
   refine(zfn g _ txt (c :: r) 40 HK.o).mono ?_;rintro e1 w1 ⟨b,rfl,rfl,hk,ho⟩;rw[q1]at hk ⊢;replace HK:=H_ (show KR g w1 txt (c :: r) from hk);have HO:=H_ ho;replace HM:=H_ (HM.o.outside ho hB);have hs1:=ho.size;clear hk ho q1;obtain⟨k1,k2,k3,k4⟩:=HK.o;have⟨m,hm⟩:=ex_ (txt.length-(c :: r).length);have hex:=extN txt m;rw[hm,<-k2,<-hm]at hex;have c0:w1.cell? (p_ g 0)=some (.string ⟨txt.toArray⟩):=by rw[al_ k1];rfl
   have c1:w1.cell? (p_ g 1)=some (.int .i64 ((txt.length-(c :: r).length:Nat):Int)):=by rw[al_ k1];rfl
   have f1:w1.frozen? (p_ g 1)=false:=bs_ k1 1;rw[<-hm]at c1;have HMM:=H_ hm;have⟨hm1,hm2⟩:m<=txt.length/\(m:Int)<=txt.length:=by omega
   have hx1:=ext01 c r;clear k1 k2 k3 hm;go_wp2_with fail
   go_quiet (fail)
   go_wp2_with fail
   refine(Tryz.strings_HasPrefix _ _ _).mono ?_;rintro e1 w2 ⟨rfl,rfl⟩;rw[P1.o];go_wp2_with fail
   refine(Tryz.strings_HasPrefix _ _ _).mono ?_;rintro e1 w2 ⟨rfl,rfl⟩;rw[P2.o];have hget:∀ hh:0<(ByteArray.mk #[c]).size,(ByteArray.mk #[c])[0]'hh=c:=λ_=>rfl
   have hstep:∀ q,KR g ((w1.drewN q).setCell (p_ g 1) (.int .i64 ((m:Int)+1))) txt r:=λq=>by rw[HMM.o];exact HK.o.step q
   have hout:∀ q,β g (g+1) w ((w1.drewN q).setCell (p_ g 1) (.int .i64 ((m:Int)+1))):=λq=>(HO.o.trans (β.drawn _ _ _ q)).setCell (p:=p_ g 1) (le_ _) (D_ _) _
   have HST:=H_ (a_ hstep hout);clear hstep hout;rcases hrest with⟨h97,h99,rfl⟩|⟨hno,k,hk,rfl⟩
   ·(have⟨i97,i99⟩:(97:Int)<=c.toNat/\(c.toNat:Int)<=99:=by omega);go_wp2;go_ret;have⟨wx,hwx⟩:=ex_ ((w1.drewN nq).setCell (p_ g 1) (.int .i64 ((m:Int)+1)));have hws:wx=w1.heap.size:=by rw[hwx];simp[World.setCell]
    have h1:=HST.o.1 nq;have h2:=HST.o.2 nq;rw[<-hwx]at h1 h2;simp only[<-hwx];have h3:=zb0 (16+((c.toNat:Int)-97)) wx;rw[hws]at h3;have hs2:=h2.size;exact ι.mk _ rfl ⟨h3.wide2 hs1 (le_ _),h1.below ((B_ _ _).alloc (le_ _) _) (by omega),h2.below ((B_ _ _).alloc (le_ _) _) (by omega)⟩
   ·(have HRT:=H_ hk);(have hcmp:(97<=c.toNat)/\¬(c.toNat<=99)\/¬(97<=c.toNat):=by omega);clear hno hk;have⟨wx,hwx⟩:=ex_ ((w1.drewN nq).setCell (p_ g 1) (.int .i64 ((m:Int)+1)));have HWX:=H_ hwx;have HKX:=H_ (HST.o.1 nq);have HOX:=H_ (HST.o.2 nq);have HMX:=H_ (HM.o.outside ((β.drawn g (g+1) w1 nq).setCell (p:=p_ g 1) (le_ _) (D_ _) (.int .i64 ((m:Int)+1))) hB);rw[<-hwx]at HKX HOX HMX;have hs2:=HOX.o.size;clear hwx HST;rcases hcmp with⟨h1,h2⟩|h1
    ·(have⟨i97,i99⟩:(97:Int)<=c.toNat/\¬(c.toNat:Int)<=99:=by omega);go_wp2_with fail
     simp only[<-HWX.o];refine(zq8 [c] _ rfl _ HMX.o.mapT).mono ?_;rintro e1 w2 ⟨rfl,rfl⟩;rw[HRT.o,show rdT (some k)=.tuple #[.int .i64 k,.bool true] from rfl];go_wp2;go_ret;exact ι.mk _ rfl ⟨(zb0 _ _).wide2 hs2 (le_ _),HKX.o.below ((B_ _ _).alloc (le_ _) _) (by omega),HOX.o.below ((B_ _ _).alloc (le_ _) _) (by omega)⟩
    ·(have i97:¬(97:Int)<=c.toNat:=by omega);go_wp2_with fail
     simp only[<-HWX.o];refine(zq8 [c] _ rfl _ HMX.o.mapT).mono ?_;rintro e1 w2 ⟨rfl,rfl⟩;rw[HRT.o,show rdT (some k)=.tuple #[.int .i64 k,.bool true] from rfl];go_wp2;go_ret;exact ι.mk _ rfl ⟨(zb0 _ _).wide2 hs2 (le_ _),HKX.o.below ((B_ _ _).alloc (le_ _) _) (by omega),HOX.o.below ((B_ _ _).alloc (le_ _) _) (by omega)⟩
theorem zub {e:List Int}(h:zbz es s=(e,r)):(zbx 42 s=false/\e=es/\r=s)\/(zbx 42 s=true/\zbz (es++[21]) s.tail=(e,r)):=by
 cases s with
 | nil=>simp[zbz] at h;exact .inl ⟨rfl,h.1.symm,h.2⟩
 | cons c t=>
  simp only[zbz]at h
  split at h
  ·rename_i hc
   exact .inr ⟨by simp[zbx];omega,h⟩
  ·rename_i hc
   injection h with h1 h2;exact .inl ⟨by simp[zbx];omega,h1.symm,h2.symm⟩
theorem zk5 {op:Int} {part:PR} {m:Nat} {e:List Int}(h:zbk sign op part m es s=some (e,r)):
  (zbx sign s=false/\e=es/\r=s)\/(zbx sign s=true/\∃ e1 r1 m',part s.tail=some (e1,r1)/\zbk sign op part m' (es++e1++[op]) r1=some (e,r)):=by
 cases s with
 | nil=>cases m<;>(simp[zbk] at h;exact .inl ⟨rfl,h.1.symm,h.2⟩)
 | cons c t=>
  cases m with
  | zero=>
   simp only[zbk]at h
   split at h
   ·cases h
   ·rename_i hc
    injection h with h;injection h with h1 h2;exact .inl ⟨by simp[zbx];omega,h1.symm,h2.symm⟩
  | succ m=>
   simp only[zbk]at h
   split at h
   ·rename_i hc
    simp only[M_]at h;obtain⟨⟨e1,r1⟩,h1,h2⟩:=h;exact .inr ⟨by simp[zbx];omega,e1,r1,m,h1,h2⟩
   ·rename_i hc
    injection h with h;injection h with h1 h2;exact .inl ⟨by simp[zbx];omega,h1.symm,h2.symm⟩
theorem zm1 {c:Int}(h:zbx c s=true):s.tail.length+1=s.length:=by
 cases s with
 | nil=>cases h
 | cons=>simp
theorem γ.app2 {e:Nat} {a:Option Addr}(h:Own 1 lo hi e w (.slice a (xs.length+ys.length) cap) (xs.length+ys.length) (δ xs++δ ys)):γ lo hi e w (.slice a (xs++ys).length cap) (xs++ys):=by
 unfold γ;rw[n_,zaa];exact h
theorem γ.app3 {e:Nat} {a:Option Addr} {zs:List Int}(h:Own 1 lo hi e w (.slice a (xs.length+ys.length+zs.length) cap) (xs.length+ys.length+zs.length) (δ xs++(δ ys++δ zs))):γ lo hi e w (.slice a (xs++ys++zs).length cap) (xs++ys++zs):=by
 unfold γ;rw[n_,n_,zaa,zaa,Z_];exact h
theorem zuw(single:PR)(n:Nat)(hsh:zdg single)(hpart:zfm 193 single n):zfm 162 (zgg single) n:=by
 intro B g w txt s e r hk hn hB hM hp;have hg:=hk.lt;simp only[zgg,W_]at hp;obtain⟨⟨e1,r1⟩,hp1,hp2⟩:=hp;have hlen:=hsh _ _ _ hp1;have h199:=hk.2.2.2;have hslen:=hk.2.2.1
 go_enter func162,ntmps162
 go_wp2_with fail
 refine(hpart B g w txt s e1 r1 hk hn hB hM hp1).mono ?_;rintro e' w1 ⟨v1,rfl,hown,hk1,ho⟩;obtain⟨a1,cap1,rfl,_⟩:=θ hown;have H:=H_ (a_ hown (a_ hk1 (a_ ho (show zbz e1 r1=(e,r) from hp2))));clear hk hM hp1 hp2 hown hk1 ho hpart hsh;go_wp2;go_loopw [3] (λv wr=>∃ (a:Option Addr) (cap:Nat) (es:List Int) (s':List UInt8),v=.slice a es cap/\es.length+s'.length<=199/\Q_ (γ w wr 3 wr (.slice a es cap) es/\KR g wr txt s'/\β g (g+1) w wr/\zbz es s'=(e,r))) (λv _=>400-zb7 v)
 case atStart=>exact⟨a1,cap1,e1,r1,rfl,by omega,H⟩
 case round=>
  obtain⟨a,cap,es,s',rfl,hl,HR⟩:=hrel;clear H;rcases zub HR.o.2.2.2 with⟨q,rfl,rfl⟩|⟨q,hq⟩
  ·go_wp2_with fail
   refine(zfn g _ txt _ 42 HR.o.2.1).mono ?_;rintro e' w2 ⟨b,rfl,rfl,hk,ho⟩;rw[q]at hk ⊢;have HR2:=H_ (a_ ((HR.o.1.outside ho (.inr (by omega))).wide2' ho.size) (a_ hk (HR.o.2.2.1.trans ho)));clear hk ho;go_wp2;go_ret;exact ι.mk _ rfl ⟨HR2.o.1,HR2.o.2.1,HR2.o.2.2⟩
  ·have HQ:=H_ hq
   have htl:=zm1 q;go_wp2_with fail
   refine(zfn g _ txt _ 42 HR.o.2.1).mono ?_;rintro e' w2 ⟨b,rfl,rfl,hk,ho⟩;rw[q]at hk ⊢;have HR2:=H_ (a_ ((HR.o.1.outside ho (.inr (by omega))).wide2' ho.size) (a_ (show KR g w2 txt s'.tail from hk) (HR.o.2.2.1.trans ho)));clear hk ho hq q HR;have hown:=HR2.o.1;have hsz:=HR2.o.2.2.size;go_wp2_with (at_builtin;refine zap _ rfl _ _ 22 rfl 3 (0:Int) 1 8 underlying22 ω rfl (by decide) (by decide) rfl hown 1 (δ [21]) rfl rfl (Ι _) rfl ?c1 ?c2 ?_)
   case c1=>omega
   case c2=>omega
   intro v' w5 hown5 hout5 _;obtain⟨a',cap',rfl,_⟩:=θ hown5;have H3:=H_ (a_ hown5 hout5);clear hown hown5 hout5;go_wp2;go_roundw
   case rel=>
    refine⟨a',cap',es++[21],s'.tail,by simp,by simp;omega,H_ ⟨γ.app2 H3.o.1,HR2.o.2.1.outside H3.o.2 hg,HR2.o.2.2.fresh H3.o.2 (le_ _),HQ.o⟩⟩
   case measure=>simp[zb7];omega
theorem z2g(part:PR)(n:Nat)(hsh:zdg part)(hpart:zfm 162 part n):zfm 119 (zd4 59 19 part) n:=by
 intro B g w txt s e r hk hn hB hM hp;have hg:=hk.lt;simp only[zd4,M_]at hp;obtain⟨⟨e1,r1⟩,hp1,hp2⟩:=hp;have hlen:=hsh _ _ _ hp1;have h199:=hk.2.2.2;have hslen:=hk.2.2.1;have HM:=H_ hM;have HP:=H_ hpart;have HS:=H_ hsh
 go_enter func119,ntmps119
 go_wp2_with fail
 refine(hpart B g w txt s e1 r1 hk hn hB hM hp1).mono ?_;rintro e' w1 ⟨v1,rfl,hown,hk1,ho⟩;obtain⟨a1,cap1,rfl,_⟩:=θ hown;have H:=H_ (a_ hown (a_ hk1 (a_ ho (Exists.intro (p:=λm=>zbk 59 19 part m e1 r1=some (e,r)) r1.length hp2))));clear hk hM hp1 hp2 hown hk1 ho hpart hsh;go_wp2;go_loopw [3] (λv wr=>∃ (a:Option Addr) (cap:Nat) (es:List Int) (s':List UInt8),v=.slice a es cap/\es.length+s'.length<=199/\s'.length<=n/\Q_ (γ w wr 3 wr (.slice a es cap) es/\KR g wr txt s'/\β g (g+1) w wr/\∃ m,zbk 59 19 part m es s'=some (e,r))) (λv _=>400-zb7 v)
 case atStart=>exact⟨a1,cap1,e1,r1,rfl,by omega,by omega,H⟩
 case round=>
  obtain⟨a,cap,es,s',rfl,hl,hl2,HR⟩:=hrel;clear H;obtain⟨m,hm⟩:=HR.o.2.2.2;rcases zk5 hm with⟨q,rfl,rfl⟩|⟨q,e2,r2,m',hq1,hq2⟩
  ·clear hm
   go_wp2_with fail
   refine(zfn g _ txt _ 59 HR.o.2.1).mono ?_;rintro e' w2 ⟨b,rfl,rfl,hk,ho⟩;rw[show zbx 59 _=false from q]at hk ⊢;have HR2:=H_ (a_ ((HR.o.1.outside ho (.inr (by omega))).wide2' ho.size) (a_ hk (HR.o.2.2.1.trans ho)));clear hk ho;go_wp2;go_ret;exact ι.mk _ rfl ⟨HR2.o.1,HR2.o.2.1,HR2.o.2.2⟩
  ·have HQ1:=H_ hq1
   have HQ2:=H_ hq2;have htl:=zm1 q;have hsh2:=HS.o _ _ _ hq1;clear hm;go_wp2_with fail
   refine(zfn g _ txt _ 59 HR.o.2.1).mono ?_;rintro e' w2 ⟨b,rfl,rfl,hk,ho⟩;rw[show zbx 59 s'=true from q]at hk ⊢;have HR2:=H_ (a_ ((HR.o.1.outside ho (.inr (by omega))).wide2' ho.size) (a_ (show KR g w2 txt s'.tail from hk) (HR.o.2.2.1.trans ho)));clear hk ho hq1 hq2 q HR;go_wp2_with fail
   refine(HP.o B g w2 txt s'.tail e2 r2 HR2.o.2.1 (by omega) hB (HM.o.outside HR2.o.2.2 hB) HQ1.o).mono ?_;rintro e' w3 ⟨v3,rfl,hown3,hk,ho⟩;have hsz2:=HR2.o.2.2.size;have HX:=H_ hown3.sl;have HR3:=H_ (a_ ((HR2.o.1.outside ho (.inr (by omega))).wide2' ho.size) (a_ hk (HR2.o.2.2.trans ho)));clear hk ho HR2 hown3;have hown:=HR3.o.1;have hsz:=HR3.o.2.2.size;go_wp2_with (at_builtin;refine Μ rfl _ _ 22 rfl 3 (0:Int) 1 8 underlying22 ω rfl (by decide) (by decide) rfl hown rfl HX.o (Ι _) ?c1 ?c2 ?_)
   case c1=>omega
   case c2=>omega
   intro v4 w4 hown4 _ hout4 _;have HR4:=H_ (a_ hown4 (a_ (HR3.o.2.1.outside hout4 hg) (HR3.o.2.2.fresh hout4 (le_ _))));clear hown hown4 hout4 HR3 HX;have hown:=HR4.o.1;have hsz4:=HR4.o.2.2.size;go_wp2_with (at_builtin;refine zap _ rfl _ _ 22 rfl 3 (0:Int) 1 8 underlying22 ω rfl (by decide) (by decide) rfl hown 1 (δ [19]) rfl rfl (Ι _) rfl ?c1 ?c2 ?_)
   case c1=>omega
   case c2=>omega
   intro v' w5 hown5 hout5 _;obtain⟨a',cap',rfl,_⟩:=θ hown5;have H3:=H_ (a_ hown5 hout5);clear hown hown5 hout5;go_wp2;go_roundw
   case rel=>
    exact⟨a',cap',es++e2++[19],r2,by first | (simp;done) | (simp;omega),by simp;omega,by omega,H_ ⟨γ.app3 H3.o.1,HR4.o.2.1.outside H3.o.2 hg,HR4.o.2.2.fresh H3.o.2 (le_ _),m',HQ2.o⟩⟩
   case measure=>simp[zb7];omega
theorem z17(part:PR)(n:Nat)(hsh:zdg part)(hpart:zfm 119 part n):zfm 68 (zd4 43 20 part) n:=by
 intro B g w txt s e r hk hn hB hM hp;have hg:=hk.lt;simp only[zd4,M_]at hp;obtain⟨⟨e1,r1⟩,hp1,hp2⟩:=hp;have hlen:=hsh _ _ _ hp1;have h199:=hk.2.2.2;have hslen:=hk.2.2.1;have HM:=H_ hM;have HP:=H_ hpart;have HS:=H_ hsh
 go_enter func68,ntmps68
 go_wp2_with fail
 refine(hpart B g w txt s e1 r1 hk hn hB hM hp1).mono ?_;rintro e' w1 ⟨v1,rfl,hown,hk1,ho⟩;obtain⟨a1,cap1,rfl,_⟩:=θ hown;have H:=H_ (a_ hown (a_ hk1 (a_ ho (Exists.intro (p:=λm=>zbk 43 20 part m e1 r1=some (e,r)) r1.length hp2))));clear hk hM hp1 hp2 hown hk1 ho hpart hsh;go_wp2;go_loopw [3] (λv wr=>∃ (a:Option Addr) (cap:Nat) (es:List Int) (s':List UInt8),v=.slice a es cap/\es.length+s'.length<=199/\s'.length<=n/\Q_ (γ w wr 3 wr (.slice a es cap) es/\KR g wr txt s'/\β g (g+1) w wr/\∃ m,zbk 43 20 part m es s'=some (e,r))) (λv _=>400-zb7 v)
 case atStart=>exact⟨a1,cap1,e1,r1,rfl,by omega,by omega,H⟩
 case round=>
  obtain⟨a,cap,es,s',rfl,hl,hl2,HR⟩:=hrel;clear H;obtain⟨m,hm⟩:=HR.o.2.2.2;rcases zk5 hm with⟨q,rfl,rfl⟩|⟨q,e2,r2,m',hq1,hq2⟩
  ·clear hm
   go_wp2_with fail
   refine(zfn g _ txt _ 43 HR.o.2.1).mono ?_;rintro e' w2 ⟨b,rfl,rfl,hk,ho⟩;rw[show zbx 43 _=false from q]at hk ⊢;have HR2:=H_ (a_ ((HR.o.1.outside ho (.inr (by omega))).wide2' ho.size) (a_ hk (HR.o.2.2.1.trans ho)));clear hk ho;go_wp2;go_ret;exact ι.mk _ rfl ⟨HR2.o.1,HR2.o.2.1,HR2.o.2.2⟩
  ·have HQ1:=H_ hq1
   have HQ2:=H_ hq2;have htl:=zm1 q;have hsh2:=HS.o _ _ _ hq1;clear hm;go_wp2_with fail
   refine(zfn g _ txt _ 43 HR.o.2.1).mono ?_;rintro e' w2 ⟨b,rfl,rfl,hk,ho⟩;rw[show zbx 43 s'=true from q]at hk ⊢;have HR2:=H_ (a_ ((HR.o.1.outside ho (.inr (by omega))).wide2' ho.size) (a_ (show KR g w2 txt s'.tail from hk) (HR.o.2.2.1.trans ho)));clear hk ho hq1 hq2 q HR;go_wp2_with fail
   refine(HP.o B g w2 txt s'.tail e2 r2 HR2.o.2.1 (by omega) hB (HM.o.outside HR2.o.2.2 hB) HQ1.o).mono ?_;rintro e' w3 ⟨v3,rfl,hown3,hk,ho⟩;have hsz2:=HR2.o.2.2.size;have HX:=H_ hown3.sl;have HR3:=H_ (a_ ((HR2.o.1.outside ho (.inr (by omega))).wide2' ho.size) (a_ hk (HR2.o.2.2.trans ho)));clear hk ho HR2 hown3;have hown:=HR3.o.1;have hsz:=HR3.o.2.2.size;go_wp2_with (at_builtin;refine Μ rfl _ _ 22 rfl 3 (0:Int) 1 8 underlying22 ω rfl (by decide) (by decide) rfl hown rfl HX.o (Ι _) ?c1 ?c2 ?_)
   case c1=>omega
   case c2=>omega
   intro v4 w4 hown4 _ hout4 _;have HR4:=H_ (a_ hown4 (a_ (HR3.o.2.1.outside hout4 hg) (HR3.o.2.2.fresh hout4 (le_ _))));clear hown hown4 hout4 HR3 HX;have hown:=HR4.o.1;have hsz4:=HR4.o.2.2.size;go_wp2_with (at_builtin;refine zap _ rfl _ _ 22 rfl 3 (0:Int) 1 8 underlying22 ω rfl (by decide) (by decide) rfl hown 1 (δ [20]) rfl rfl (Ι _) rfl ?c1 ?c2 ?_)
   case c1=>omega
   case c2=>omega
   intro v' w5 hown5 hout5 _;obtain⟨a',cap',rfl,_⟩:=θ hown5;have H3:=H_ (a_ hown5 hout5);clear hown hown5 hout5;go_wp2;go_roundw
   case rel=>
    exact⟨a',cap',es++e2++[20],r2,by first | (simp;done) | (simp;omega),by simp;omega,by omega,H_ ⟨γ.app3 H3.o.1,HR4.o.2.1.outside H3.o.2 hg,HR4.o.2.2.fresh H3.o.2 (le_ _),m',HQ2.o⟩⟩
   case measure=>simp[zb7];omega
theorem zrq:∀ n,zfm 68 (ze7 n) n
 | 0=>by intro B g w txt s e r hk hn hB hM hp;cases hp
 | n+1=>z17 _ _ (zjs (zim (zgw (zes n)))) (z2g _ _ (zim (zgw (zes n))) (zuw _ _ (zgw (zes n)) (zvg _ _ (zrq n))))
theorem zce:(Tryz.prog.info? 9).map (λi=>(i.zero,i.size,i.bytes))=some (some (.string ⟨#[]⟩),1,16):=by kernel_rfl
theorem z1k(a:Addr)(c:Nat)(w:World)(hs:Sl 1 0 w w (.slice (some a) 6 c) 6 six):
  Calls prog 218 #[.slice (some a) 6 c] w (ι λv w'=>∃ g o cap,v=.pointer (q_ g 0)/\w.heap.size<=g/\w.heap.size<=o/\o≠g/\Below w w w' /\
   Blk g (.cells #[.int .u32 0,.int .i32 0,.int .u32 0,.nilIface,.slice (q_ o 0) 6 cap] 254) w'/\(∀ j,j<6->w'.cell? (p_ o j)=six[j]?)):=by
 have HS:=H_ hs;clear hs;have hnil:=Ω 1 w w 9 w
 go_enter func218,ntmps218
 go_wp2_with (at_builtin;refine Μ rfl _ _ 26 rfl 9 (.string ⟨#[]⟩) 1 16 underlying26 zce rfl (by decide) (by decide) rfl hnil rfl HS.o ?c0 ?c1 ?c2 ?_)
 case c0=>decide
 case c1=>omega
 case c2=>omega
 intro v1 w1 hown hgr hout _;obtain⟨⟨hlen,h⟩,hlt⟩:=hown;rcases h with⟨_,h0⟩|⟨o,cap,cur,rfl,hb,hg,hnc,hcm,hcs,htake⟩
 ·cases h0
 ·have hs1:=hout.size
  have holt:=(L_.1 hg).1
  have hcell:∀ j,j<6->w1.cell? (p_ o j)=six[j]?:=by
   intro j hj;have h:(cur.toList.take 6)[j]?=six[j]?:=congrArg (λl=>l[j]?) htake;rw[World.cell?,hg];rw[bb_,x_ hj]at h
   simpa using h
  have HB:=H_ (show Below w w w1 from ⟨hout.os,hout.tape,hout.output,hout.size,λk hk=>hout.block k hk (by omega)⟩);have HC:=H_ hcell;clear hcell hlen hlt hgr hg hcs htake hcm hout hnil;go_wp2;go_ret;refine ι.mk _ rfl ⟨w1,o,cap,rfl,hs1,hb,by omega,HB.o.alloc hs1 _,κ _ _,λj hj=>?_⟩;exact(((B_ _ w1).alloc (le_ _) _).cell (p:=p_ o j) holt).trans (HC.o j hj)
theorem zzv(g o cap:Nat)(txt:List UInt8)(w:World)(hne:o≠g)(hK:Blk g (.cells #[.int .u32 0,.int .i32 0,.int .u32 0,.nilIface,.slice (q_ o 0) 6 cap] 254) w)
  (hS:∀ j,j<6->w.cell? (p_ o j)=six[j]?) (hl:txt.length<=199) :
  Calls prog 219 #[.pointer (q_ g 0),.string ⟨txt.toArray⟩] w λe w'=>e=.returned (.string ⟨(txt.map zao).toArray⟩)/\β g (g+1) w w':=by
 have hmf:∀ (fn:Fn) (first cap:Array Value) (w:World),(Instr.makeFunc fn first cap).run prog w=.ok (.func fn first cap) w:=λ_ _ _ _=>rfl
 have HK:=H_ hK;have HS:=H_ hS;have hlt:=hK.lt;clear hK hS
 go_enter func219,ntmps219
 go_wp2_with fail
 refine(zv4 g o cap _ _ hne HK.o HS.o).mono ?_;rintro e w1 ⟨rfl,t,cs,h1,h2,h3,h4,h5⟩;have c3:=h2.cell 3;have hm : ∀ w, Sem.run prog (method 461 278 (.pointer (some ⟨t, 0, none⟩)) "Replace") w = .ok (⟨330, .pointer (some ⟨t, 0, none⟩)⟩) w := fun w => by kernel_rfl
 have H3:=H_ h3;have H4:=H_ h4;have H5:=H_ h5;clear h2 h3 h4 h5;go_wp2_with fail
 refine(zuy t cs txt _ H3.o H4.o hl).mono ?_;rintro e w2 ⟨rfl,hb⟩;have HB:=H_ hb;clear hb;go_wp2;go_ret;exact⟨rfl,H5.o.trans (β.of_below HB.o (le_ _))⟩
theorem z2i(p q:Addr)(w:World):
  CallsD prog 67 #[.pointer (some p),.pointer (some q)] .returning w λe u' w'=>e=.returned (.tuple #[])/\u'=.returning/\w'=w:=by
 refine callsD_of_wpS func67 rfl λc₀ cs hu=>?_
 apply wpS_seq;apply wpS_region;simp[wpOpsS,go_sem,recoverD,hu,ntmps67,Exit.thenS];refine wpS_of_wp ?_
 change Code.wp _ _ _ { tmps:=#[.pointer (some p),.pointer (some q),undef,undef,undef,.nilIface,undef,undef,undef,undef,undef],defers:=[] } w
 go_wp2;cases c₀
 simp_all [bodyPostS,results,results67]
theorem zw1(txt:List UInt8)(e:List Int)(s:ByteArray)(hs:s=⟨txt.toArray⟩)(w:World)(hM:zdc w)(hl:txt.length<=199)(hp:ze7 txt.length txt=some (e,[]))(hv:ν e=true):
  Calls prog 26 #[.string s] w (ι λx w'=>∃ v,x=.tuple #[v,.bool true]/\Below w w w'/\γ w w' 3 w' v e):=by
 subst hs;have hmf:∀ (fn:Fn) (first cap:Array Value) (w:World),(Instr.makeFunc fn first cap).run prog w=.ok (.func fn first cap) w:=λ_ _ _ _=>rfl
 have HM:=H_ hM.mapB;have HP:=H_ hp;clear hM hp;have⟨w3,hw3⟩:=ex_ (((w.alloc (.cells #[()] 22)).alloc (.cells #[.bool false] 4)).alloc (.cells #[.string ⟨txt.toArray⟩,(0:Int)] 87));have hb:Below w w w3:=by rw[hw3];exact(((B_ _ _).alloc (le_ _) _).alloc (by simp) _).alloc (by simp;omega) _
 have hsz:w3=w.heap.size+3:=by rw[hw3];simp
 have hh0:Blk w (.cells #[()] 22) w3:=by
  rw[hw3];exact((κ w _).below ((B_ _ _).alloc (le_ _) _) (by simp)).below ((B_ _ _).alloc (le_ _) _) (by simp;omega)
 have hh1:Blk (w+1) (.cells #[.bool false] 4) w3:=by
  have h:=κ (w.alloc (.cells #[()] 22)) (.cells #[.bool false] 4);rw[μ]at h;rw[hw3];exact h.below ((B_ _ _).alloc (le_ _) _) (by simp)
 have hh2:Blk (w+2) (.cells #[.string ⟨txt.toArray⟩,(0:Int)] 87) w3:=by
  have h:=κ ((w.alloc (.cells #[()] 22)).alloc (.cells #[.bool false] 4)) (.cells #[.string ⟨txt.toArray⟩,(0:Int)] 87);rw[μ,μ]at h;rw[hw3];exact h
 have HK:=H_ (show KR (w+2) w3 txt txt from ⟨by rw[show w3.heap[w.heap.size+2]?=_ from hh2];simp,by simp,le_ _,hl⟩);have HB:=H_ hb;have HW:=H_ hw3;have H0:=H_ hh0;have H1:=H_ hh1;clear hh0 hh1 hh2 hb hw3;replace HM:=H_ (HM.o.below HB.o (le_ _))
 go_enter_defers func26,ntmps26
 go_wp2_with fail
 simp only[<-HW.o];refine(zrq txt.length w (w+2) w3 txt txt e [] HK.o (le_ _) (by omega) HM.o HP.o).mono ?_;rintro e' w4 ⟨v,rfl,hown,hk,ho⟩;obtain⟨a,cap,rfl,_⟩:=θ hown;have hs4:=ho.size;replace H0:=H_ ((ho.block w (by omega) (by omega)).trans H0.o);replace H1:=H_ ((ho.block (w+1) (by omega) (by omega)).trans H1.o);replace HB:=H_ (ε HB.o ho (by omega) HB.o.size);have HV:=H_ hown;obtain⟨k1,k2,_,_⟩:=hk;have c1:w4.cell? (p_ (w+2) 1)=some (.int .i64 (txt.length:Int)):=by rw[al_ k1];rfl
 have e0:w4.cell? (p_ w 0)=some (.slice none 0 0):=by rw[al_ H0.o];rfl
 have e1:w4.cell? (p_ (w+1) 0)=some (.bool false):=by rw[al_ H1.o];rfl
 have f0:w4.frozen? (p_ w 0)=false:=bs_ H0.o 0;have f1:w4.frozen? (p_ (w+1) 0)=false:=bs_ H1.o 0;have helen:e.length<=1048576:=by have:=zes txt.length _ _ _ HP.o;simp at this;omega
 clear k1 k2 ho hown HK;go_wp2_with fail
 refine(zc3 _ _ _ e _ HV.o.sl helen).mono ?_;rintro e' w5 ⟨rfl,rfl⟩;rw[hv];go_wp2;have hown5:=HV.o;have⟨wz,hwz⟩:=ex_ ((w4.setCell (p_ w 0) (.slice a e cap)).setCell (p_ (w+1) 0) (.bool true))
 have hoz:β w (w+2) w4 wz:=by
  rw[hwz];exact((β.refl _ _ _).setCell (p:=p_ w 0) (le_ _) (by show w.heap.size<_;omega) _).setCell (p:=p_ (w+1) 0) (by show w<=w.heap.size+1;omega) (by show w.heap.size+1<_;omega) _
 have z0:wz.cell? (p_ w 0)=some (.slice a e cap):=by
  rw[hwz];exact(ae_ _ _ _ _ (by simp)).trans (ap_ _ _ _ e0)
 have z1:wz.cell? (p_ (w+1) 0)=some (.bool true):=by
  rw[hwz];exact ap_ _ _ _ ((ae_ _ _ _ _ (by simp)).trans e1)
 simp only[<-hwz];clear hwz;refine cv_ (f:=67) (args:=#[.pointer (q_ w 0),.pointer (q_ (w+1) 0)]) (by simp) (by simp[go_sem]) ?_;refine(z2i _ _ _).mono ?_;rintro e' u' w'' ⟨rfl,rfl,rfl⟩;simp[Leaves,settle,results,results26,go_sem,z0,z1];exact ι.mk _ rfl ⟨_,rfl,ε HB.o hoz (le_ _) HB.o.size,(hown5.outside hoz (.inr (by omega))).wide2 (by omega) hoz.size⟩
theorem zom(txt:List UInt8)(e:List Int)(w:World)(hM:zdc w)(hl:txt.length<=199)(hp:ze7 txt.length (txt.map zao)=some (e,[]))(hv:ν e=true):
  Calls prog 194 #[.string ⟨txt.toArray⟩] w (ι λv w'=>Below w w w'/\γ w w' 3 w' v (e.map zav)):=by
 have HM:=H_ hM;have HP:=H_ hp;have helen:e.length<=199:=by have:=zes txt.length _ _ _ hp;simp at this;omega
 clear hM hp;have⟨w0,hw0⟩:=xa_ w #[.string ⟨#[120]⟩,.string ⟨#[97]⟩,.string ⟨#[121]⟩,.string ⟨#[98]⟩,.string ⟨#[122]⟩,.string ⟨#[99]⟩] 9;have hb0:Below w w w0:=by rw[hw0];exact(B_ _ _).alloc (le_ _) _
 have hsl:Sl 1 0 w0 w0 (.slice (q_ w 0) 6 6) 6 six:=by
  have h:=(ς 1 9 w six 6 (by omega) rfl).sl;rw[hw0];exact zg6 h (aw_ _) (by simp)
 have hsz0:=hb0.size;have HB:=H_ hb0;have HS:=H_ hsl;have HW0:=H_ hw0;clear hb0 hsl hw0
 go_enter func194,ntmps194
 go_wp2_with fail
 simp only[<-HW0.o];refine(z1k _ _ _ HS.o).mono ?_;rintro e1 w1 ⟨v1,rfl,g,o,cap,rfl,hg,ho,hne,hb,hk,hs⟩;have HK:=H_ hk;have HC:=H_ hs;replace HB:=HB.tr hb hsz0;clear hk hs hb;go_wp2_with fail
 refine(zzv g o cap txt w1 hne HK.o HC.o hl).mono ?_;rintro e1 w2 ⟨rfl,ho2⟩;replace HB:=H_ (ε HB.o ho2 (by omega) HB.o.size);clear ho2;go_wp2_with fail
 refine(zw1 (txt.map zao) e _ rfl w2 (HM.o.below HB.o) (by simpa using hl) (by rw[X_];exact HP.o) hv).mono ?_;rintro e1 w3 ⟨v3,rfl,v,rfl,hb,hown⟩;have hs2:=HB.o.size;replace HB:=HB.ts hb;obtain⟨a,cp,rfl,hcap,hcm,hlen,hopen⟩:=θ hown;have hown0:=hown.1;have HLT:=H_ hown.2;clear hb hown hlen;go_wp2;go_loopw [17] (λi wr=>∃ j:Nat,j<=e.length/\i=.int .i64 j/\Q_ (wr.ownsRow w2 3 1 (.slice a e cp) e.length (zdi (δ (e.map zav)) (δ e) j)/\Below w w wr/\w3<=wr.heap.size)) (λi _=>e.length-(intOf i).toNat)
 case atStart=>exact⟨0,by omega,rfl,H_ ⟨by rw[zu8];exact hown0,HB.o,le_ _⟩⟩
 case round=>
  obtain⟨j,hj,rfl,HR⟩:=hrel;clear hown0;by_cases hlt:j<e.length
  ·obtain⟨q,rfl,hg1,hg2⟩:=hopen (by omega)
   have hown:=HR.o.1;have hw1:=hown.cellAt j (by omega);have hw2:=hown.frozenAt j;rw[zs6 _ _ _ (by simp[δ]) (by simp[δ];omega),zha _ _ hlt]at hw1;have hlm:j<(e.map zav).length:=by simpa using hlt
   cases hq:zal e[j]
   ·have HE:=H_ (show zdi (δ (e.map zav)) (δ e) j=zdi (δ (e.map zav)) (δ e) (j+1) by
     (have h:=zsy (δ (e.map zav)) (δ e) j (by simp[δ]) (by simp[δ];omega) _ (zha _ _ hlm);rw[<-h])
     symm
     apply List.ext_getElem?;intro i;rw[List.getElem?_set]
     split
     ·subst_vars
      split
      ·rw[zs6 _ _ _ (by simp[δ]) (by simp[δ];omega),zha _ _ hlt]
       simp[zav,hq]
      ·rename_i h2
       exact absurd (by rw[zx6 _ _ _ (by simp[δ])];simp[δ];omega) h2
     ·rfl)
    clear hown hopen;go_wp2_with (go_at_call 176;refine(zb3 _ _).mono ?_;rintro e w' ⟨rfl,rfl⟩)
    go_roundw
    (case rel=>exact⟨j+1,by omega,by go_num,H_ ⟨by rw[<-HE.o];exact HR.o.1,HR.o.2⟩⟩);case measure=>simp[intOf];omega
   ·(have hty:(-1:Int)-(e[j]-16)=(e.map zav)[j]:=by simp[zav,hq]);(have HST:=H_ (hown.stored j (.int .i64 (-1-(e[j]-16)))).1;have HY:=H_ hty;have hb1:16<=e[j]/\e[j]<=18:=by simpa [zal] using hq);(obtain⟨b16,b18⟩:=hb1;clear hown hopen hty;go_wp2_with (go_at_call 176;refine(zb3 _ _).mono ?_;rintro e w' ⟨rfl,rfl⟩));go_roundw
    case rel=>
     refine⟨j+1,by omega,by go_num,H_ ⟨?_,HR.o.2.1.setCell (p:=p_ q j) (by show w.heap.size<=q;omega) _,by simpa [World.setCell] using HR.o.2.2⟩⟩;have h:=zsy (δ (e.map zav)) (δ e) j (by simp[δ]) (by simp[δ];omega) _ (zha _ _ hlm);rw[<-h,<-HY.o];exact HST.o
    case measure=>simp[intOf];omega
  ·obtain rfl:j=e.length:=by omega
   go_wp2;go_ret;have h:=HR.o.1;rw[zy8 _ _ _ (by simp[δ]) (by simp[δ])]at h;refine ι.mk _ rfl ⟨HR.o.2.1,γ.len (n:=e.length) (za3 ⟨h,λg hg=>T_ (HLT.o g hg) HR.o.2.2⟩ hs2 (le_ _)) (by simp)⟩
def zcs(lo hi:Nat)(w:World)(a b:Value)(L R:List Int):Prop:=∃ m,lo<=m/\m<=hi/\γ lo m 3 w a L/\γ m hi 3 w b R
def RetR(P:Value->Value->World->Prop)(e:Ending)(w':World):Prop:=∃ a b,e=.returned (.agg #[a,b])/\P a b w'
theorem Blk.set2(h:Blk g (.cells #[x0,x1] e (0,0)) w)(a b:Value):
  Blk g (.cells #[a,b] e (0,0)) ((w.setCell (p_ g 0) a).setCell (p_ g 1) b):=by
 have h':w.heap[g]?=_:=h
 show ((w.setCell (p_ g 0) a).setCell (p_ g 1) b).heap[g]?=_
 simp[World.setCell,V_,h']
theorem β.set2(g:Nat)(w:World)(a b:Value):β g (g+1) w ((w.setCell (p_ g 0) a).setCell (p_ g 1) b):=
 ((β.refl _ _ _).setCell (p:=p_ g 0) (le_ _) (D_ _) _).setCell (p:=p_ g 1) (le_ _) (D_ _) _
theorem zzl(n:Nat)(hn:n<21)(w:World)(hE:zax w):
  Calls prog 163 #[.int .i64 n] w (RetR λa b w'=>Below w w w'/\zcs w w' w' a b (Ν n true) (Ν n false)):=by
 have⟨w0,hw0⟩:=xa_ w #[(),()] 161;have HB:Q_ (Below w w w0):=by rw[hw0];exact H_ ((B_ _ _).alloc (le_ _) _)
 have K:Q_ (Blk w (.cells #[(),()] 161) w0):=by rw[hw0];exact H_ (κ w _)
 have hsz:w0=w.heap.size+1:=by rw[hw0];simp
 have hle:w<=w0.heap.size:=by omega
 obtain⟨eL,pL,vL,sL,lL⟩:=zkn hn true;obtain⟨eR,pR,vR,sR,lR⟩:=zkn hn false;have PL:=H_ (a_ pL (a_ vL sL));have PR:=H_ (a_ pR (a_ vR sR));have HE:=H_ (hE.below HB.o);obtain⟨rb,off,cap,g0,g1⟩:=HE.o.rules;have gn:=g1 n hn;have hlen:=z1y n hn;have hnc:(n:Int)<21:=by omega
 have HW0:=H_ hw0;rw[hw0]at g0 gn;clear hE pL vL sL pR vR sR g1 hw0
 go_enter func163,ntmps163
 go_wp2_with fail
 simp only[<-HW0.o];refine(zww (zcp.getD n []) [61] _ _ rfl rfl w0 HE.o.most (by omega)).mono ?_;rintro e w1 ⟨rfl,hb⟩;replace HE:=H_ (HE.o.below hb);replace K:=K.kb hb;replace HB:=HB.tr hb hle;have hs1:=hb.size;rw[show (Lib.cut (zcp.getD n []) [61]).1=zc5 n true from rfl,show (Lib.cut (zcp.getD n []) [61]).2.1=zc5 n false from rfl];clear hb g0 gn;go_wp2_with fail
 refine(zom (zc5 n true) eL _ HE.o.map (by omega) PL.o.1 PL.o.2.1).mono ?_;rintro e w2 ⟨v2,rfl,hb,hown⟩;obtain⟨a2,cap2,rfl,_⟩:=θ hown;have HL:=H_ hown;replace HE:=H_ (HE.o.below hb);replace K:=K.kb hb;have hs2:=hb.size;replace HB:=HB.tr hb (by omega);clear hb hown;go_wp2_with fail
 refine(zom (zc5 n false) eR _ HE.o.map (by omega) PR.o.1 PR.o.2.1).mono ?_;rintro e w3 ⟨v3,rfl,hb,hown⟩;obtain⟨a3,cap3,rfl,_⟩:=θ hown;have HRR:=H_ hown;replace HL:=H_ (HL.o.below hb (le_ _));replace K:=K.kb hb;have hs3:=hb.size;replace HB:=HB.tr hb (by omega);clear hb hown;have⟨c0,c1⟩:=K.o.c2;have⟨f0,f1⟩:=K.o.f2;have⟨wz,hwz⟩:=x2_ w3 w (.slice a2 (eL.map zav).length cap2) (.slice a3 (eR.map zav).length cap3);have KZ:=K.o.set2 (.slice a2 (eL.map zav).length cap2) (.slice a3 (eR.map zav).length cap3);have HO:=H_ (β.set2 w w3 (.slice a2 (eL.map zav).length cap2) (.slice a3 (eR.map zav).length cap3));rw[<-hwz]at KZ HO;have HZ:=H_ (ε HB.o HO.o (le_ _) HB.o.size);obtain⟨q0,q1⟩:=KZ.c2;have hsz4:=HO.o.size;clear KZ;go_wp2
 try simp only[X_] at hwz q0 q1 ⊢
 simp only[<-hwz];clear hwz;refine d_ (v:=.agg #[.slice a2 eL cap2,.slice a3 eR cap3]) (by simp[results,results163,go_sem,q0,q1]) rfl ⟨_,_,rfl,HZ.o,?_⟩;rw[PL.o.2.2,PR.o.2.2];have h1:=HL.o;have h2:=HRR.o;simp only[X_]at h1 h2;exact⟨w2,by omega,by omega,(h1.outside HO.o (.inr (by omega))).lower (by omega) (le_ _),(h2.outside HO.o (.inr (by omega))).lower (le_ _) hsz4⟩
theorem zm7(n:Int)(w:World):Calls prog 145 #[.int .i64 n] w λe w'=>e=.returned (.bool (inB n 0 20))/\w=w':=by
 go_enter func145,ntmps145
 by_cases h1:0<=n
 ·by_cases h2:n<21
  ·go_wp2
   go_ret;exact⟨χ (by simp[inB,h1];omega),rfl⟩
  ·go_wp2
   go_ret;exact⟨χ (by simp[inB];omega),rfl⟩
 ·go_wp2
  go_ret;exact⟨χ (by simp[inB];omega),rfl⟩
def RetRB(P:Value->Value->Bool->World->Prop)(e:Ending)(w':World):Prop:=∃ a b c,e=.returned (.tuple #[.agg #[a,b],.bool c])/\P a b c w'
def isR(n:Int):Bool:=inB n 0 20
def zdr(n:Int)(l:Bool):List Int:=if isR n then Ν n.toNat l else []
theorem zcs.nil(lo hi:Nat)(h:lo<=hi)(w:World):zcs lo hi w () () [] []:=⟨lo,le_ _,h,Ω _ _ _ _ _,Ω _ _ _ _ _⟩
theorem zcs.below {a b:Value}(h:zcs lo hi w a b L R)(hb:Below B w w')(hB:hi<=B):zcs lo hi w' a b L R:=by
 obtain⟨m,h1,h2,h3,h4⟩:=h;exact⟨m,h1,h2,h3.below hb (by omega),h4.below hb hB⟩
theorem zcs.outside {a b:Value}(h:zcs lo hi w a b L R)(hb:β lo' hi' w w')(hd:hi<=lo'\/hi'<=lo):zcs lo hi w' a b L R:=by
 obtain⟨m,h1,h2,h3,h4⟩:=h;exact⟨m,h1,h2,h3.outside hb (by omega),h4.outside hb (by omega)⟩
theorem zcs.wide {a b:Value}(h:zcs lo hi w a b L R)(h1:lo'<=lo)(h2:hi<=hi'):zcs lo' hi' w a b L R:=by
 obtain⟨m,k1,k2,k3,k4⟩:=h;exact⟨m,by omega,by omega,k3.lower h1 (le_ _),k4.lower (le_ _) h2⟩
theorem zge(lo hi lo' hi':Nat)(v v':Value)(xs ys:List Int)(w:World)(hx:SlI lo hi w v xs)(hy:SlI lo' hi' w v' ys):
  c_ 71 #[v,v'] w (.bool (eqL xs ys)):=by
 obtain⟨a,cap,rfl,hcap,hcm,hc⟩:=hx.open;obtain⟨a',cap',rfl,hcap',hcm',hc'⟩:=hy.open;unfold maxLen at hcm hcm';by_cases hl:xs.length=ys.length
 ·by_cases h0:xs.length=0
  ·obtain rfl:=A_ h0
   obtain rfl:=A_ (show ys.length=0 by omega);refine(Tryz.slices_Equal_int_empty a a' cap 0 cap' w (by omega)).mono ?_;rintro e w' ⟨rfl,rfl⟩;exact⟨rfl,B_ _ _⟩
  ·obtain⟨b,off,rfl,_⟩:=hc 0 (by omega)
   obtain⟨b',off',rfl,_⟩:=hc' 0 (by omega);refine(Tryz.slices_Equal_int b off xs.length cap b' off' ys.length cap' xs ys w (le_ _) (le_ _) (by omega) (by omega) ?_ ?_).mono ?_
   ·intro j hj
    obtain⟨b2,off2,e,_,_,_,h⟩:=hc j hj;injection e with e;injection e with e1 e2;subst e1 e2;rw[h];simp[List.getD,hj]
   ·intro j hj
    obtain⟨b2,off2,e,_,_,_,h⟩:=hc' j hj;injection e with e;injection e with e1 e2;subst e1 e2;rw[h];simp[List.getD,hj]
   ·rintro e w' ⟨rfl,q,rfl⟩
    exact⟨by simp[eqL],ai_ (B_ _ _) _⟩
 ·refine(Tryz.slices_Equal_int_lens a a' _ cap _ cap' w hl).mono ?_
  rintro e w' ⟨rfl,rfl⟩;exact⟨χ (zk1 hl).symm,B_ _ _⟩
theorem zdo(lo hi:Nat)(v:Value)(xs:List Int)(w:World)(hx:SlI lo hi w v xs)(hm:xs.length<=1048576):
  Calls prog 76 #[v] w (ι λv' w'=>Below w w w'/\γ w w' 3 w' v' xs):=by
 obtain⟨a,cap,rfl,hcap,hcm,hc⟩:=hx.open;have hnone:a=none->cap=0:=by obtain⟨a',cap',e,_,_,_,h,_⟩:=hx;injection e with e1 _ e2;subst e1 e2;exact h
 by_cases hl:xs.length=0
 ·have hx0:xs=[]:=A_ hl
  subst hx0;cases a with
  | none=>
   refine(Tryz.slices_Clone_int_nil _ _ w).mono ?_;rintro e w' ⟨rfl,rfl⟩;exact ι.mk _ rfl ⟨B_ _ _,Ω _ _ _ _ _⟩
  | some ad=>
   refine(Tryz.slices_Clone_int_zero ad cap w).mono ?_;rintro e w' ⟨v',rfl,h1,_,h2⟩;exact ι.mk _ rfl ⟨h2,zfs h1⟩
 ·obtain⟨b,off,rfl,_⟩:=hc 0 (by omega)
  have hcc:∀ j,j<xs.length->w.cell? (p_ b (off+j))=some (.int .i64 (xs.getD j 0)):=by
   intro j hj;obtain⟨b',off',e,_,_,_,h⟩:=hc j hj;injection e with e;injection e with e1 e2;subst e1 e2;rw[h];simp[List.getD,hj]
  refine(Tryz.slices_Clone_int b off xs.length cap xs w (le_ _) (by omega) hcc).mono ?_;rintro e w' ⟨v',rfl,h1,_,h2⟩;rw[Y_]at h1;exact ι.mk _ rfl ⟨h2,zfs h1⟩
theorem Η {w0:World} {o:Obj}(h:w0=w.alloc o):Below w w w0/\Blk w o w0/\w+1<=w0.heap.size:=by
 subst h;exact⟨(B_ _ _).alloc (le_ _) _,κ w o,by simp⟩
theorem Blk.set4(h:Blk g (.cells #[x0,x1,x2,x3] e (0,0)) w)(a b c d:Value):
  Blk g (.cells #[a,b,c,d] e (0,0)) ((((w.setCell (p_ g 0) a).setCell (p_ g 1) b).setCell (p_ g 2) c).setCell (p_ g 3) d):=by
 have h':w.heap[g]?=_:=h
 show ((((w.setCell (p_ g 0) a).setCell (p_ g 1) b).setCell (p_ g 2) c).setCell (p_ g 3) d).heap[g]?=_
 simp[World.setCell,V_,h']
theorem β.set4(g:Nat)(w:World)(a b c d:Value):β g (g+1) w ((((w.setCell (p_ g 0) a).setCell (p_ g 1) b).setCell (p_ g 2) c).setCell (p_ g 3) d):=
 ((((β.refl _ _ _).setCell (p:=p_ g 0) (le_ _) (D_ _) _).setCell (p:=p_ g 1) (le_ _) (D_ _) _).setCell (p:=p_ g 2) (le_ _) (D_ _) _).setCell (p:=p_ g 3) (le_ _) (D_ _) _
theorem Blk.put {cs:Array Value}(h:Blk g (.cells cs e (0,0)) w)(j:Nat)(u:Value):Blk g (.cells (cs.setIfInBounds j u) e (0,0)) (w.setCell (p_ g j) u):=by
 have h':w.heap[g]?=_:=h
 show (w.setCell (p_ g j) u).heap[g]?=_
 simp[World.setCell,V_,h']
theorem β.put(g j:Nat)(w:World)(u:Value):β g (g+1) w (w.setCell (p_ g j) u):=(β.refl _ _ _).setCell (p:=p_ g j) (le_ _) (D_ _) _
theorem β.undrew(h:β lo hi w.drew w'):β lo hi w w':=⟨h.os,h.tape,h.output,h.size,h.block⟩
theorem Rd.drew(h:Rd g w c):Rd g w.drew c:=h
theorem Rd.al(h:Rd g w c)(o:Obj):Rd g (w.alloc o) c:=h.below ((B_ _ _).alloc (le_ _) _) h.lt
theorem Blk.drew {o:Obj}(h:Blk g o w):Blk g o w.drew:=h
theorem Blk.al {o:Obj}(h:Blk g o w):Blk g o (w.alloc x):=h.below ((B_ _ _).alloc (le_ _) _) h.lt
def zba:=@Blk.al
theorem hop1 {o:Obj}(ho:β g (g+1) (w.alloc o).drew w')(hlt:g<w):Blk w o w':=
 zcc (w:=(w.alloc o).drew) (show (w.alloc o).heap[w.heap.size]?=some o from ba_ w o) ho (Or.inr hlt)
theorem hop2 {o:Obj}(ho:β g (g+1) ((w.alloc o).alloc x).drew w')(hlt:g<w):Blk w o w'/\Blk (w+1) x w':=by
 refine⟨zcc (w:=((w.alloc o).alloc x).drew) ((κ w o).al.drew) ho (Or.inr hlt),?_⟩;have h:=κ (w.alloc o) x;rw[μ]at h;exact zcc (w:=((w.alloc o).alloc x).drew) h.drew ho (Or.inr (by omega))
theorem zie {o:Obj}(ho:β g (g+1) (w.alloc o) w')(hlt:g<w):Blk w o w':=
 zcc (ba_ w o) ho (Or.inr hlt)
theorem hop4 {o:Obj}(ho:β g (g+1) ((w.alloc o).alloc x) w')(hlt:g<w):Blk w o w'/\Blk (w+1) x w':=by
 refine⟨zcc (κ w o).al ho (Or.inr hlt),?_⟩;have h:=κ (w.alloc o) x;rw[μ]at h;exact zcc h ho (Or.inr (by omega))
inductive zdd:World->World->Prop where
 | refl (w:World):zdd w w
 | drew {w w':World}:zdd w w'->zdd w w'.drew
 | al {w w':World} (o:Obj):zdd w w'->zdd w (w'.alloc o)
theorem zdd.o(h:zdd w w'):Below w w w':=by
 induction h with
 | refl=>exact B_ _ _
 | drew _ ih=>exact ih.drew
 | al o h ih=>exact ih.alloc ih.size _
theorem β.grew {w1:World}(h:β g (g+1) w1 w')(k:zdd w w1):β g (g+1) w w':=
 (β.of_below k.o (le_ _)).trans h
theorem zmw(w:World){cs:Array Value}{T:TypeId}{z:Nat}{y:Value}(h:cs[z]?=some y):(w.alloc (.cells cs T)).cell? (p_ w z)=some y:=by
 rw[(κ w (.cells cs T)).cell z,h]
theorem zrr(w:World)(o:Obj){cs:Array Value}{T:TypeId}{z:Nat}{y:Value}(h:cs[z]?=some y):((w.alloc o).alloc (.cells cs T)).cell? (p_ (w+1) z)=some y:=by
 have:=zmw (w.alloc o) (T:=T) h
 rwa [μ]at this
theorem zse(w:World)(o:Obj){cs:Array Value}{T:TypeId}{z:Nat}{y:Value}(h:cs[z]?=some y):((w.alloc (.cells cs T)).alloc o).cell? (p_ w z)=some y:=by
 rw[((κ w (.cells cs T)).al (x:=o)).cell z,h]
theorem β.set5(g:Nat)(w:World)(a b c d f:Value):β g (g+1) w (((((w.setCell (p_ g 0) a).setCell (p_ g 1) b).setCell (p_ g 2) c).setCell (p_ g 3) d).setCell (p_ g 4) f):=
 (((((β.refl _ _ _).setCell (p:=p_ g 0) (le_ _) (D_ _) _).setCell (p:=p_ g 1) (le_ _) (D_ _) _).setCell (p:=p_ g 2) (le_ _) (D_ _) _).setCell (p:=p_ g 3) (le_ _) (D_ _) _).setCell (p:=p_ g 4) (le_ _) (D_ _) _
theorem β.pute(g j:Nat)(w:World)(x:Value):β g (g+1) w (w.setCell (p_ g j) x):=
 (β.refl _ _ _).setCell (p:=p_ g j) (le_ _) (D_ _) _
theorem β.put3(g:Nat)(w:World)(a b c:Value):β g (g+1) w (((w.setCell (p_ g 1) a).setCell (p_ g 2) b).setCell (p_ g 3) c):=
 (((β.refl _ _ _).setCell (p:=p_ g 1) (le_ _) (D_ _) _).setCell (p:=p_ g 2) (le_ _) (D_ _) _).setCell (p:=p_ g 3) (le_ _) (D_ _) _
theorem Blk.put4(h:Blk g (.cells #[x0,x1,x2,x3,x4] e (0,0)) w)(y:Value):Blk g (.cells #[x0,x1,x2,x3,y] e (0,0)) (w.setCell (p_ g 4) y):=by
 have h':w.heap[g]?=_:=h
 show (w.setCell (p_ g 4) y).heap[g]?=_
 simp[World.setCell,V_,h']
theorem Blk.put3(h:Blk g (.cells #[x0,x1,x2,x3,x4] e (0,0)) w)(a b c:Value):
  Blk g (.cells #[x0,a,b,c,x4] e (0,0)) (((w.setCell (p_ g 1) a).setCell (p_ g 2) b).setCell (p_ g 3) c):=by
 have h':w.heap[g]?=_:=h
 show (((w.setCell (p_ g 1) a).setCell (p_ g 2) b).setCell (p_ g 3) c).heap[g]?=_
 simp[World.setCell,V_,h']
theorem ζ(w:World)(o:Obj):Below w w (w.alloc o):=(B_ _ _).alloc (le_ _) _
theorem β.drw(h:β lo hi w w'):β lo hi w w'.drew:=⟨h.os,h.tape,h.output,h.size,h.block⟩
end Go.Proofs.YtfnnhimopokpnaaGreatDoor
