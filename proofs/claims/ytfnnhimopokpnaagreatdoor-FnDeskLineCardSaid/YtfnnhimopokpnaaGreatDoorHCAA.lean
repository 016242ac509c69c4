/- Lemmas for this seat; no condition. -/
import Derived.Test.YtfnnhimopokpnaaGreatDoorRows
import Derived.WalkSpells
import Derived.WalkLawsBesides
import Derived.Lib.Hide
import Derived.BigQuiet
import Derived.ProofKit
import Derived.OpenShut
import Derived.ShutString
namespace Go.Proofs.YtfnnhimopokpnaaGreatDoor
open Go.RowKit Proofs.Tryz
set_option maxRecDepth 100000
set_option maxHeartbeats 0
set_option linter.all false
def a_:=@And.intro
def d_:=@bodyPost_ret
def j_:=@Bool.and_eq_true
def k_:=@List.mem_singleton
def l_:=@List.getElem?_eq_getElem
def m_:=@if_neg
def n_:=@List.length_append
def t_:=@decide_eq_true_eq
def u_:=@List.getElem_mem
def x_:=@if_pos
def y_:=@List.drop_eq_getElem_cons
def z_:=@Below.drew
def A_:=@List.eq_nil_of_length_eq_zero
def D_:=@Nat.lt_succ_self
def E_:=@List.mem_append
def F_:=@List.take_succ_eq_append_getElem
def G_:=@Nat.le_of_eq
def I_:=@List.length_cons
def J_:=@Nat.le_trans
def L_:=@Array.getElem?_eq_some_iff
def M_:=@Option.bind_eq_some_iff
def N_:=@List.mem_cons
def T_:=@Nat.lt_of_lt_of_le
def U_:=@Nat.zero_add
def V_:=@Array.getElem?_modify
def W_:=@Option.map_eq_some_iff
def X_:=@List.length_map
def Y_:=@List.take_length
def Z_:=@List.append_assoc
def aa_:=@List.mem_map
def ab_:=@Option.bind_some
def ac_:=@Option.getD_some
def ad_:=@List.nil_append
def ae_:=@World.cell?_setCell_other
def af_:=@List.length_drop
def ag_:=@World.cell?_of_block
def ah_:=@Nat.pow_le_pow_right
def ai_:=@below_drewN
def aj_:=@List.cons_append
def al_:=@Lib.cell_of_heap
def am_:=@List.length_take
def an_:=@List.length_nil
def ao_:=@beq_false_of_ne
def ap_:=@World.cell?_setCell_same
def aq_:=@List.getElem_append_left
def ar_:=@Option.some.injEq
def as_:=@World.block_lt_of_cell?
def au_:=@List.mem_cons_self
def av_:=@of_decide_eq_true
def aw_:=@Nat.zero_le
def ax_:=@List.getElem_of_mem
def ay_:=@List.take_of_length_le
def az_:=@List.drop_of_length_le
def a0_:=@Option.isSome_some
def a1_:=@List.take_append_drop
def a2_:=@List.getElem?_append_right
def a3_:=@List.getElem?_eq_some_iff
def a4_:=@List.pairwise_cons
def a5_:=@Addr.add_lit
def a6_:=@List.getElem?_set_ne
def a7_:=@List.mem_of_mem_take
def a8_:=@Option.isSome_none
def a9_:=@List.getElem_append_right
def ba_:=@heap_alloc_new
def bb_:=@List.getElem?_take
def bc_:=@of_decide_eq_false
def bd_:=@List.ext_getElem
def be_:=@Nat.sub_self
def bf_:=@Prod.mk.injEq
def bg_:=@Nat.mod_two_eq_zero_or_one
def bh_:=@List.getElem_cons_zero
def bi_:=@Nat.lt_or_ge
def bj_:=@List.not_mem_nil
def bk_:=@Nat.mul_le_mul
def bl_:=@List.take_left
def bm_:=@List.reverse_append
def bn_:=@ByteArray.mk_append_mk
def bo_:=@ByteArray.data_extract
def bp_:=@List.findIdx?_eq_some_iff_getElem
def bq_:=@List.getElem_map
def br_:=@Nat.testBit_eq_decide_div_mod_eq
def bs_:=@Lib.frozen_of_heap
def bt_:=@List.pairwise_iff_getElem
def bu_:=@beq_iff_eq
def bv_:=@BitVec.ofInt_natCast
def bw_:=@List.length_set
def bx_:=@or_false
def by_:=@List.map_append
def bz_:=@List.take_add_one
def b0_:=@Int.toNat_natCast
def b1_:=@List.getElem_take
def b2_:=@beq_eq_false_iff_ne
def b3_:=@List.length_pos_iff
def b4_:=@Nat.mod_eq_of_lt
def b5_:=@List.all_eq_true
def b6_:=@decide_eq_true
def b7_:=@Array.getElem?_setIfInBounds
def b8_:=@info_parts
def b9_:=@MapKept.run_getObj_map
def ca_:=@List.length_eq_one_iff
def cb_:=@List.drop_eq_nil_of_le
def cc_:=@BitVec.toNat_ofNat
def cd_:=@ByteArray.ext
def ce_:=@Nat.or_lt_two_pow
def cf_:=@List.mem_cons_of_mem
def cg_:=@List.mem_of_getElem?
def ch_:=@List.drop_left
def ci_:=@List.drop_zero
def cj_:=@Nat.add_zero
def cl_:=@List.mem_nil_iff
def cm_:=@Bool.eq_iff_iff
def cn_:=@Option.map_some
def co_:=@Nat.one_lt_two_pow
def cp_:=@Nat.testBit_lt_two_pow
def cq_:=@World.drewN_drewN
def cr_:=@Nat.le_of_lt
def cs_:=@List.length_singleton
def cu_:=@List.reverse_nil
def cv_:=@leaves_cons
def cw_:=@UInt8.toNat_inj
def cx_:=@List.append_nil
def cy_:=@Bool.or_eq_true
def cz_:=@Nat.two_pow_pos
def c0_:=@List.findIdx?_eq_none_iff
def c1_:=@Option.some.inj
def c3_:=@List.map_nil
def c4_:=@Nat.lt_of_le_of_lt
def c5_:=@Nat.add_sub_cancel
def c6_:=@List.getElem_of_eq
def c7_:=@run_underlying
def c8_:=@List.mem_range
def c9_:=@Nat.testBit_or
def da_:=@List.flatMap_cons
def db_:=@List.getElem_drop
def dc_:=@List.reverse_singleton
def dd_:=@World.ownsRow.frozenAt
def de_:=@List.getElem_cons_succ
def df_:=@List.map_cons
def dg_:=@WalkArith.wf_i64
def dh_:=@IntKind.wrap_i64
def di_:=@List.set_append_right
def dj_:=@List.singleton_append
def dk_:=@run_convert_bytes_arg
def dl_:=@List.getElem?_eq_none
def dm_:=@Nat.pow_lt_pow_right
def dn_:=@World.ownsRow.stored
def do_:=@Nat.and_le_left
def dp_:=@Nat.testBit_two_pow
def dq_:=@Option.map_map
def dr_:=@List.drop_drop
def ds_:=@List.take_zero
def dt_:=@cell_of_row
def du_:=@List.getElem?_drop
def dv_:=@Nat.eq_zero_or_pos
def dw_:=@Nat.add_assoc
def dx_:=@Bool.true_and
def dy_:=@Array.getElem?_append_left
def dz_:=@List.getElem?_map
def d0_:=@List.reverse_cons
def d1_:=@Array.toList_push
def d2_:=@List.nodup_append
def d3_:=@List.foldl_append
def d4_:=@Option.filter_eq_some_iff
def d5_:=@List.getElem?_append_left
def d6_:=@if_true
def d7_:=@Option.isSome_iff_exists
def d8_:=@Nat.sub_zero
def d9_:=@List.getElem_set
def ea_:=@decide_eq_false_iff_not
def eb_:=@Nat.min_eq_left
def ec_:=@decide_eq_false
def ed_:=@World.var?_cell
def ee_:=@Oper.upon_value
def ef_:=@UInt8.toNat.inj
def eg_:=@List.take_take
def eh_:=@Nat.mod_lt
def ei_:=@List.map_take
def Q_ (p:Prop):Prop:=p
theorem Q_.o {p:Prop} (h:Q_ p):p:=h
theorem H_ {p:Prop} (h:p):Q_ p:=h
structure P_ (g k:Nat)
def p_ (g k:Nat):P_ g k:=⟨⟩
instance {g k:Nat}:CoeOut (P_ g k) Addr:=⟨fun _=>⟨g,k,none⟩⟩
instance:Coe World Nat:=⟨fun w=>w.heap.size⟩
instance {α:Type}:CoeOut (List α) Nat:=⟨fun l=>l.length⟩
instance:Coe Int Value:=⟨fun x=>.int .i64 x⟩
instance:Coe Nat Value:=⟨fun x=>.int .i64 (x:Int)⟩
instance:Coe Bool Value:=⟨fun x=>.bool x⟩
instance:Coe Unit Value:=⟨fun _=>.slice none 0 0⟩
structure R_ (g k:Nat)
def q_ (g k:Nat):R_ g k:=⟨⟩
instance {g k:Nat}:CoeOut (R_ g k) (Option Addr):=⟨fun _=>some ⟨g,k,none⟩⟩
structure C_ (n:FuncId) (a:Array Value) (w:World) (v:Value)
def c_ (n:FuncId) (a:Array Value) (w:World) (v:Value):C_ n a w v:=⟨⟩
instance {n:FuncId} {a:Array Value} {w:World} {v:Value}:CoeSort (C_ n a w v) Prop:=⟨fun _=>Calls prog n a w fun e w'=>e=.returned v∧Below w.heap.size w w'⟩
theorem x2_ (W:World) (g:Nat) (a b:Value):∃ x,x=(W.setCell ⟨g,0,none⟩ a).setCell ⟨g,1,none⟩ b:=⟨_,rfl⟩
theorem x3_ (W:World) (g:Nat) (a b c:Value):∃ x,x=((W.setCell ⟨g,0,none⟩ a).setCell ⟨g,1,none⟩ b).setCell ⟨g,2,none⟩ c:=⟨_,rfl⟩
theorem x4_ (W:World) (g:Nat) (a b c d:Value):∃ x,x=(((W.setCell ⟨g,0,none⟩ a).setCell ⟨g,1,none⟩ b).setCell ⟨g,2,none⟩ c).setCell ⟨g,3,none⟩ d:=⟨_,rfl⟩
theorem x5_ (W:World) (g:Nat) (a b c d e:Value):∃ x,x=((((W.setCell ⟨g,0,none⟩ a).setCell ⟨g,1,none⟩ b).setCell ⟨g,2,none⟩ c).setCell ⟨g,3,none⟩ d).setCell ⟨g,4,none⟩ e:=⟨_,rfl⟩
theorem xa_ (W:World) (a:Array Value) (e:TypeId):∃ x,x=W.alloc (.cells a e):=⟨_,rfl⟩
theorem le_ (n : Nat) : n ≤ n := Nat.le_refl n
theorem B_ (n : Nat) (w : World) : Below n w w := Below.refl n w
theorem ex_ {α : Type} (a : α) : ∃ x, x = a := ⟨a, rfl⟩
variable {sz lo hi B n lo' hi' e cap k t sign g:Nat} {w w' c w2:World} {v:Value} {xs ys zs:List Int} {s:Int} {cs:Array Value} {f:Nat × Nat}
structure β(lo hi:Nat)(w w':World):Prop where
 os:w'.os=w.os
 tape:w'.tape=w.tape
 output:w'.output=w.output
 size:w<=w'.heap.size
 block:∀ k,k<w.heap.size->(k<lo\/hi<=k)->w'.heap[k]?=w.heap[k]?
def Sl(sz lo hi:Nat)(w:World)(v:Value)(n:Nat)(xs:List Value):Prop:=
 ∃ a cap,v=.slice a n cap/\n<=cap/\cap<=maxLen/\xs.length=n*sz/\(a=none->cap=0) /\
  ∀ i,i<xs.length->∃ b off,a=some ⟨b,off,none⟩/\lo<=b/\b<hi/\b<w.heap.size/\w.cell? (p_ b (off+i))=xs[i]?
def ints(xs:List Int):List Value:=xs.map (Value.int .i64)
def SlI(lo hi:Nat)(w:World)(v:Value)(xs:List Int):Prop:=Sl 1 lo hi w v xs.length (ints xs)
theorem zb3(xs:List Int):(ints xs).length=xs.length:=by simp[ints]
theorem zgj(xs:List Int)(i:Nat)(h:i<xs.length):(ints xs)[i]?=some (.int .i64 xs[i]):=by simp[ints,h]
theorem Sl.below {xs:List Value}(h:Sl sz lo hi w v n xs)(hb:Below B w w')(hB:hi<=B):Sl sz lo hi w' v n xs:=by
 obtain⟨a,cap,h1,h2,h3,h4,h5,h6⟩:=h;refine⟨a,cap,h1,h2,h3,h4,h5,λi hi'=>?_⟩;obtain⟨b,off,e,e1,e2,e3,e4⟩:=h6 i hi';exact⟨b,off,e,e1,e2,T_ e3 hb.size,by rw[hb.cell (p:=p_ b _) (T_ e2 hB)];exact e4⟩
def zco:=@Sl.below
theorem Sl.wide {xs:List Value}(h:Sl sz lo hi w v n xs)(h1:lo'<=lo)(h2:hi<=hi'):Sl sz lo' hi' w v n xs:=by
 obtain⟨a,cap,h1',h2',h3,h4,h5,h6⟩:=h;refine⟨a,cap,h1',h2',h3,h4,h5,λi hi'=>?_⟩;obtain⟨b,off,e,e1,e2,e3,e4⟩:=h6 i hi';exact⟨b,off,e,by omega,by omega,e3,e4⟩
theorem Sl.outside {xs:List Value}(h:Sl sz lo hi w v n xs)(hb:β lo' hi' w w')(hd:hi<=lo'\/hi'<=lo):Sl sz lo hi w' v n xs:=by
 obtain⟨a,cap,h1,h2,h3,h4,h5,h6⟩:=h;refine⟨a,cap,h1,h2,h3,h4,h5,λi hi'=>?_⟩;obtain⟨b,off,e,e1,e2,e3,e4⟩:=h6 i hi';refine⟨b,off,e,e1,e2,T_ e3 hb.size,?_⟩;rw[ag_ (w:=w) (a:=p_ b (off+i)) (hb.block b e3 (by omega))];exact e4
def zif:=@Sl.outside
theorem Below.outside {a b:World}(h:Below B a b)(k:β lo hi b c)(hB:B<=lo)(hs:B<=b.heap.size):Below B a c:=
 ⟨k.os.trans h.os,k.tape.trans h.tape,k.output.trans h.output,J_ h.size k.size,λi hi=>(k.block i (by omega) (by omega)).trans (h.block i hi)⟩
def δ:=@Below.outside
def Own(sz lo hi e:Nat)(w:World)(v:Value)(n:Nat)(xs:List Value):Prop:=
 w.ownsRow lo e sz v n xs/\∀ g,v.ownBlock=some g->g<hi
theorem Own.sl {xs:List Value}(h:Own sz lo hi e w v n xs):Sl sz lo hi w v n xs:=by
 obtain⟨⟨hlen,h⟩,hlt⟩:=h;rcases h with⟨rfl,rfl⟩|⟨g,cap,cur,rfl,hb,hg,hnc,hcm,hcs,htake⟩
 ·refine⟨none,0,rfl,le_ _,by simp[maxLen],hlen,λ_=>rfl,λi hi=>?_⟩
  simp[hlen]at hi
 ·refine⟨_,cap,rfl,hnc,hcm,hlen,(by intro h;cases h),λi hi=>?_⟩
  have hgs:=(L_.1 hg).1;refine⟨g,0,rfl,hb,hlt g rfl,hgs,?_⟩;rw[U_,dt_ w g i cur e (0,0) hg,<-htake,bb_,x_ (by omega)];simp
def zcq:=@Own.sl
theorem Own.below {xs:List Value}(h:Own sz lo hi e w v n xs)(hb:Below B w w')(hB:hi<=B):Own sz lo hi e w' v n xs:=by
 obtain⟨⟨hlen,h⟩,hlt⟩:=h;refine⟨⟨hlen,?_⟩,hlt⟩;rcases h with h|⟨g,cap,cur,rfl,h1,hg,rest⟩
 ·exact .inl h
 ·exact .inr ⟨g,cap,cur,rfl,h1,by rw[hb.block g (T_ (hlt g rfl) hB)];exact hg,rest⟩
def zgs:=@Own.below
theorem Own.outside {xs:List Value}(h:Own sz lo hi e w v n xs)(hb:β lo' hi' w w')(hd:hi<=lo'\/hi'<=lo):Own sz lo hi e w' v n xs:=by
 obtain⟨⟨hlen,h⟩,hlt⟩:=h;refine⟨⟨hlen,?_⟩,hlt⟩;rcases h with h|⟨g,cap,cur,rfl,h1,hg,rest⟩
 ·exact .inl h
 ·have hgs:=(L_.1 hg).1
  have:=hlt g rfl;exact .inr ⟨g,cap,cur,rfl,h1,by rw[hb.block g hgs (by omega)];exact hg,rest⟩
def zmc:=@Own.outside
def γ(lo hi e:Nat)(w:World)(v:Value)(xs:List Int):Prop:=Own 1 lo hi e w v xs.length (ints xs)
theorem γ.sl(h:γ lo hi e w v xs):SlI lo hi w v xs:=zcq h
theorem γ.below(h:γ lo hi e w v xs)(hb:Below B w w')(hB:hi<=B):γ lo hi e w' v xs:=zgs h hb hB
theorem γ.outside(h:γ lo hi e w v xs)(hb:β lo' hi' w w')(hd:hi<=lo'\/hi'<=lo):γ lo hi e w' v xs:=zmc h hb hd
theorem SlI.below(h:SlI lo hi w v xs)(hb:Below B w w')(hB:hi<=B):SlI lo hi w' v xs:=zco h hb hB
def zh5:=@SlI.below
theorem SlI.outside(h:SlI lo hi w v xs)(hb:β lo' hi' w w')(hd:hi<=lo'\/hi'<=lo):SlI lo hi w' v xs:=zif h hb hd
theorem SlI.wide(h:SlI lo hi w v xs)(h1:lo'<=lo)(h2:hi<=hi'):SlI lo' hi' w v xs:=Sl.wide h h1 h2
theorem SlI.open(h:SlI lo hi w v xs):
  ∃ a cap,v=.slice a xs cap/\xs.length<=cap/\cap<=maxLen /\
   ∀ i,(h:i<xs.length)->∃ b off,a=some ⟨b,off,none⟩/\lo<=b/\b<hi/\b<w.heap.size/\w.cell? (p_ b (off+i))=some (.int .i64 xs[i]):=by
 obtain⟨a,cap,h1,h2,h3,h4,h5,h6⟩:=h;refine⟨a,cap,h1,h2,h3,λi hi'=>?_⟩;obtain⟨b,off,e,e1,e2,e3,e4⟩:=h6 i (by simpa [ints] using hi');exact⟨b,off,e,e1,e2,e3,by rw[e4,zgj xs i hi']⟩
def ze4(xs:List Value)(z:Value)(k:Nat):List Value:=xs.take k++List.replicate (xs.length-k) z
theorem z03(xs:List Value)(z:Value):ze4 xs z 0=List.replicate xs.length z:=by simp[ze4]
theorem ztp(xs:List Value)(z:Value)(k:Nat)(h:xs.length<=k):ze4 xs z k=xs:=by
 simp[ze4,ay_ h,show xs.length-k=0 by omega]
theorem z1x(xs:List Value)(z:Value)(k:Nat)(h:k<xs.length):(ze4 xs z k)[k]?=some z:=by
 have h1:(xs.take k).length=k:=by simp;omega
 rw[ze4,a2_ (by omega),h1,be_,List.getElem?_replicate,x_ (by omega)]
theorem zzj(xs:List Value)(z:Value)(k:Nat)(h:k<xs.length)(u:Value)(hu:xs[k]?=some u):(ze4 xs z k).set k u=ze4 xs z (k+1):=by
 have h1:(xs.take k).length=k:=by simp;omega
 unfold ze4
 rw[di_ _ _ (by omega),h1,be_,show xs.length-k=(xs.length-(k+1))+1 by omega,List.replicate_succ,List.set_cons_zero,
  bz_,hu]
 simp
def over(ys xs:List Value)(k:Nat):List Value:=ys.take k++xs.drop k
theorem zu6(ys xs:List Value):over ys xs 0=xs:=by simp[over]
theorem zxn(ys xs:List Value)(k:Nat)(h:xs.length<=k)(h2:ys.length<=k):over ys xs k=ys:=by
 simp[over,ay_ h2,h]
theorem ztf(ys xs:List Value)(k:Nat)(h:ys.length=xs.length):(over ys xs k).length=xs.length:=by
 simp[over];omega
theorem zqs(ys xs:List Value)(k:Nat)(h:ys.length=xs.length)(hk:k<xs.length)(u:Value)(hu:ys[k]?=some u):(over ys xs k).set k u=over ys xs (k+1):=by
 have h1:(ys.take k).length=k:=by simp;omega
 unfold over;rw[di_ _ _ (by omega),h1,be_,y_ hk,List.set_cons_zero,bz_,hu];simp
theorem zr3(ys xs:List Value)(k:Nat)(h:ys.length=xs.length)(hk:k<xs.length):(over ys xs k)[k]?=xs[k]?:=by
 have h1:(ys.take k).length=k:=by simp;omega
 rw[over,a2_ (by omega),h1,be_,du_];simp
theorem β.refl(lo hi:Nat)(w:World):β lo hi w w:=⟨rfl,rfl,rfl,le_ _,λ_ _ _=>rfl⟩
theorem β.trans {a b:World}(h:β lo hi a b)(k:β lo hi b c):β lo hi a c:=
 ⟨k.os.trans h.os,k.tape.trans h.tape,k.output.trans h.output,J_ h.size k.size,λi hi h2=>(k.block i (T_ hi h.size) h2).trans (h.block i hi h2)⟩
theorem β.setCell {a:World}(h:β lo hi a w){p:Addr}(h1:lo<=p.block)(h2:p.block<hi)(u:Value):β lo hi a (w.setCell p u):=
 h.trans ⟨rfl,rfl,rfl,by simp[World.setCell],λk _ hk=>Below.heap_setCell _ _ _ _ (by omega)⟩
theorem β.of_below(h:Below B w w')(hB:w.heap.size<=B):β lo hi w w':=
 ⟨h.os,h.tape,h.output,h.size,λk hk _=>h.block k (by omega)⟩
theorem β.wide(h:β lo hi w w')(h1:lo'<=lo)(h2:hi<=hi'):β lo' hi' w w':=
 ⟨h.os,h.tape,h.output,h.size,λk hk hd=>h.block k hk (by omega)⟩
theorem β.fresh {a b:World}(h:β lo hi a b)(k:β lo' hi' b c)(hlo:a.heap.size<=lo'):β lo hi a c:=
 ⟨k.os.trans h.os,k.tape.trans h.tape,k.output.trans h.output,J_ h.size k.size,λi hi h2=>(k.block i (T_ hi h.size) (.inl (by omega))).trans (h.block i hi h2)⟩
theorem β.below {a b:World}(h:β lo hi a b)(k:Below B b c)(hB:a.heap.size<=B):β lo hi a c:=
 ⟨k.os.trans h.os,k.tape.trans h.tape,k.output.trans h.output,J_ h.size k.size,λi hi h2=>(k.block i (by omega)).trans (h.block i hi h2)⟩
theorem Own.open {xs:List Value}(h:Own sz lo hi e w v n xs):
  ∃ a cap,v=.slice a n cap/\n<=cap/\cap<=maxLen/\xs.length=n*sz/\(0<n->∃ g,a=some ⟨g,0,none⟩/\lo<=g/\g<hi):=by
 obtain⟨⟨hlen,h⟩,hlt⟩:=h;rcases h with⟨rfl,rfl⟩|⟨g,cap,cur,rfl,h1,hg,hnc,hcm,_⟩
 ·exact⟨none,0,rfl,le_ _,by simp[maxLen],hlen,by omega⟩
 ·exact⟨_,cap,rfl,hnc,hcm,hlen,λ_=>⟨g,rfl,h1,hlt g rfl⟩⟩
def ζ:=@Own.open
theorem SlI.get {a:Option Addr}(h:SlI lo hi w (.slice a n cap) xs)(i:Nat)(hi':i<xs.length):
  ∃ b off,a=some ⟨b,off,none⟩/\lo<=b/\b<hi/\b<w.heap.size/\w.cell? (p_ b (off+i))=some (.int .i64 xs[i]):=by
 obtain⟨a',cap',e,_,_,hc⟩:=h.open;injection e with e1 _ _;subst e1;exact hc i hi'
def zc9:=@SlI.get
def zbb(P:Bool->World->Prop)(e:Ending)(w':World):Prop:=∃ x,e=.returned (.bool x)/\P x w'
def zdc(P:Int->World->Prop)(e:Ending)(w':World):Prop:=∃ x,e=.returned (.int .i64 x)/\P x w'
def ε(P:Value->World->Prop)(e:Ending)(w':World):Prop:=∃ x,e=.returned x/\P x w'
theorem zbb.mk {P:Bool->World->Prop} {e:Ending}(x:Bool)(h:e=.returned (.bool x))(hp:P x w'):zbb P e w':=⟨x,h,hp⟩
theorem zdc.mk {P:Int->World->Prop} {e:Ending}(x:Int)(h:e=.returned x)(hp:P x w'):zdc P e w':=⟨x,h,hp⟩
theorem ε.mk {P:Value->World->Prop} {e:Ending}(x:Value)(h:e=.returned x)(hp:P x w'):ε P e w':=⟨x,h,hp⟩
def zbe:Value->Nat | .slice _ n _=>n | _=>0
theorem Sl.shape {xs:List Value}(h:Sl sz lo hi w v n xs):∃ a cap,v=.slice a n cap/\n<=cap/\cap<=maxLen:=by
 obtain⟨a,cap,h1,h2,h3,_⟩:=h;exact⟨a,cap,h1,h2,h3⟩
def ο:=@Sl.shape
theorem τ:(Tryz.prog.info? 3).map (λi=>(i.zero,i.size,i.bytes))=some (some (.int .i64 0),1,8):=by kernel_rfl
theorem z3l(lo hi:Nat)(v:Value)(xs:List Int)(w:World)(hx:SlI lo hi w v xs)(hm:xs.length<=1048576):
  Calls prog 35 #[v] w λe w'=>
   ∃ v',e=.returned v'/\Below w w w'/\γ w w' 3 w' v' xs:=by
 obtain⟨i0,hi,hz0,hz1,hz2⟩:=b8_ τ;obtain⟨a,cap,rfl,hcap,hcm,hc⟩:=hx.open;clear hx hcm
 go_enter func35,ntmps35
 go_wp2_with ((at_make;refine wpList_make_full _ rfl _ _ 22 rfl w.heap.size 3 i0 (0:Int) 1 underlying22 hi hz0 hz1 .i64 .i64 xs.length xs.length xs.length rfl rfl rfl rfl ?c1 ?c2 ?c3 ?c4))
 case c1=>rw[hz2];omega
 case c2=>simp[maxLen];omega
 case c3=>exact le_ _
 case c4=>
  intro w1 hown hg;have hb1:Below w w w1:=(B_ _ _).grown hg (le_ _) (by simp);rw[toList_madeCells_one]at hown;clear hg hi hz0 hz1 hz2;go_wp2;go_loopw [4] (λi wr=>∃ k,k<=xs.length/\i=.int .i64 k/\wr.ownsRow w 3 1 (.slice (q_ w 0) xs xs.length) xs.length (ze4 (ints xs) (0:Int) k)/\Below w w wr) (λi _=>xs.length-(intOf i).toNat)
  case atStart=>exact⟨0,by omega,rfl,by rw[z03,zb3];exact hown,hb1⟩
  case round=>
   obtain⟨k,hk,rfl,hown,hbk⟩:=hrel;clear hb1;by_cases hlt:k<xs.length
   ·(obtain⟨b,off,rfl,_,_,hbs,hck⟩:=hc k hlt)
    have hck':wr.cell? (p_ b (off+k))=some (.int .i64 xs[k]):=by
     rw[hbk.cell (p:=p_ b (off+k)) hbs];exact hck
    (have hne:b≠w.heap.size:=by omega);(have hw1:=hown.cellAt k (by omega);have hw2:=hown.frozenAt k;have HS:=H_ (hown.stored k (.int .i64 xs[k]));have HBS:=H_ (hbk.setCell (p:=p_ w k) (le_ _) (.int .i64 xs[k])))
    have hw3:∃ x,wr.cell? (p_ w k)=some x:=by
     refine⟨.int .i64 0,?_⟩;rw[hw1];exact z1x _ _ _ (by rw[zb3];exact hlt)
    (obtain⟨x,hw3⟩:=hw3;clear hc hck hw1 hown hbk;go_wp2;go_roundw)
    case rel=>
     exact⟨k+1,by omega,by go_num,by rw[<-zzj _ _ k (by rw[zb3];exact hlt) _ (zgj xs k hlt)];exact HS.o.1,HBS.o⟩
    case measure=>simp[intOf];omega
   ·(obtain rfl:k=xs.length:=by omega);go_wp2;go_ret;rw[ztp _ _ _ (by rw[zb3];exact le_ _)]at hown;exact⟨_,rfl,hbk,hown,λg hg=>(hown.lt g hg).2⟩
theorem φ {a b:Bool}(h:a=b):Ending.returned (.bool a)=.returned (.bool b):=by rw[h]
def inB(n lo hi:Int):Bool:=decide (lo<=n)&&decide (n<=hi)
theorem za4(n lo hi:Int)(w:World):
  Calls prog 101 #[.int .i64 n,.int .i64 lo,.int .i64 hi] w λe w'=>e=.returned (.bool (inB n lo hi))/\w=w':=by
 go_enter func101,ntmps101
 by_cases h1:lo<=n
 ·by_cases h2:n<=hi
  ·go_wp2
   go_ret;exact⟨φ (by simp[inB,h1,h2]),rfl⟩
  ·go_wp2
   go_ret;exact⟨φ (by simp[inB];omega),rfl⟩
 ·go_wp2
  go_ret;exact⟨φ (by simp[inB];omega),rfl⟩
def eqL(xs ys:List Int):Bool:=xs==ys
theorem zj2(h:xs.length≠ys.length):eqL xs ys=false:=by
 unfold eqL;rw[b2_];intro e;exact h (by rw[e])
theorem zn1(h1:k<xs.length)(h2:k<ys.length)(h:xs[k]≠ys[k]):eqL xs ys=false:=by
 unfold eqL;rw[b2_];intro e;subst e;exact h rfl
theorem zta(hl:xs.length=ys.length)(h:∀ j (h1:j<xs.length) (h2:j<ys.length),xs[j]=ys[j]):eqL xs ys=true:=by
 unfold eqL;rw[bu_];exact bd_ hl h
def Ξ(s:Int):Int:=if s=19\/s=20 then 2 else if s=21 then 1 else 0
theorem zmj(s:Int)(h1:¬s=19)(h2:¬s=20)(h3:¬s=21):Ξ s=0:=by simp[Ξ,h1,h2,h3]
theorem zet(s:Int):0<=Ξ s/\Ξ s<=2:=by unfold Ξ;split<;>(try split)<;>omega
theorem zdk {k:IntKind} {a b:Int}(h:a=b):Ending.returned (.int k a)=.returned (.int k b):=by rw[h]
def zap:List Int->Int->Option Int
 | [],d=>some d
 | s :: r,d=>if s<0\/21<s\/d<Ξ s then none else zap r (d+1-Ξ s)
def μ(e:List Int):Bool:=decide (1<=e.length)&&decide (e.length<=40)&&(zap e 0==some 1)
theorem zik(xs:List Int)(k:Nat)(d:Int)(h:k<xs.length)(hb:xs[k]<0\/21<xs[k]\/d<Ξ xs[k]):zap (xs.drop k) d=none:=by
 rw[y_ h,zap,x_ hb]
theorem zr1(xs:List Int)(k:Nat)(d:Int)(h:k<xs.length)(hb:¬(xs[k]<0\/21<xs[k]\/d<Ξ xs[k])):zap (xs.drop k) d=zap (xs.drop (k+1)) (d+1-Ξ xs[k]):=by
 rw[y_ h,zap,m_ hb]
theorem zpx(xs:List Int)(k:Nat)(d:Int)(h:xs.length<=k):zap (xs.drop k) d=some d:=by
 rw[az_ h];rfl
theorem zii(h:zap xs 0=none):μ xs=false:=by simp[μ,h]
theorem zhg(s:Int)(w:World):
  Calls prog 121 #[.int .i64 s] w λe w'=>e=.returned (.int .i64 (Ξ s))/\w=w':=by
 by_cases h1:s=19
 ·subst h1
  go_enter func121,ntmps121
  go_wp2;go_ret;exact⟨rfl,rfl⟩
 ·by_cases h2:s=20
  ·subst h2
   go_enter func121,ntmps121
   go_wp2;go_ret;exact⟨rfl,rfl⟩
  ·have b1:(s==19)=false:=by simpa using h1
   have b2:(s==20)=false:=by simpa using h2
   by_cases h3:s=21
   ·subst h3
    go_enter func121,ntmps121
    go_wp2;go_ret;exact⟨rfl,rfl⟩
   ·(have b3:(s==21)=false:=by simpa using h3);(have hr:=H_ (zmj s h1 h2 h3);clear h1 h2 h3);go_enter func121,ntmps121
    go_wp2;go_ret;exact⟨zdk (by rw[hr.o]),rfl⟩
theorem zma(s:Int)(w:World):
  Calls prog 117 #[.int .i64 s] w λe w'=>e=.returned (.int .i64 (Ξ s))/\w=w':=by
 by_cases h1:s=19
 ·subst h1
  go_enter func117,ntmps117
  go_wp2;go_ret;exact⟨rfl,rfl⟩
 ·by_cases h2:s=20
  ·subst h2
   go_enter func117,ntmps117
   go_wp2;go_ret;exact⟨rfl,rfl⟩
  ·have b1:(s==19)=false:=by simpa using h1
   have b2:(s==20)=false:=by simpa using h2
   by_cases h3:s=21
   ·subst h3
    go_enter func117,ntmps117
    go_wp2;go_ret;exact⟨rfl,rfl⟩
   ·(have b3:(s==21)=false:=by simpa using h3);(have hr:=H_ (zmj s h1 h2 h3);clear h1 h2 h3);go_enter func117,ntmps117
    go_wp2;go_ret;exact⟨zdk (by rw[hr.o]),rfl⟩
theorem zc5(lo hi:Nat)(v:Value)(xs:List Int)(w:World)(hx:SlI lo hi w v xs)(hm:xs.length<=1048576):
  Calls prog 69 #[v] w λe w'=>e=.returned (.bool (μ xs))/\w=w':=by
 obtain⟨a,cap,rfl,hcap,hcm,hc⟩:=hx.open;clear hx hcm hcap;by_cases h1:1<=xs.length
 ·by_cases h2:xs.length<=40
  ·go_enter func69,ntmps69
   go_wp2
   go_loop [3,16] (λc i=>∃ (k:Nat) (d:Int),k<=xs.length/\i=.int .i64 k/\c=.int .i64 d/\0<=d/\d<=k/\Q_ (zap (xs.drop k) d=zap xs 0)) (λ_ i=>xs.length-(intOf i).toNat)
   case atStart=>exact⟨0,0,by omega,rfl,rfl,by omega,by omega,H_ rfl⟩
   case round=>
    obtain⟨k,d,hk,rfl,rfl,hd0,hdk,HT⟩:=hrel;by_cases hlt:k<xs.length
    ·(obtain⟨b,off,rfl,_,_,_,hcell⟩:=hc k hlt);clear hc;obtain⟨t0,t1⟩:=zet xs[k];by_cases hb1:xs[k]<0
     ·(have HN:=H_ (zik xs k d hlt (.inl hb1)));go_wp2;go_ret;exact⟨φ (zii (by rw[<-HT.o,HN.o])).symm,rfl⟩
     ·by_cases hb2:21<xs[k]
      ·(have HN:=H_ (zik xs k d hlt (.inr (.inl hb2))));go_wp2;go_ret;exact⟨φ (zii (by rw[<-HT.o,HN.o])).symm,rfl⟩
      ·by_cases hb3:d<Ξ xs[k]
       ·(have HN:=H_ (zik xs k d hlt (.inr (.inr hb3))));go_wp2_with (go_at_call 121;refine(zhg _ _).mono ?_;rintro e w' ⟨rfl,rfl⟩)
        go_ret;exact⟨φ (zii (by rw[<-HT.o,HN.o])).symm,rfl⟩
       ·(have HN:=H_ (zr1 xs k d hlt (by omega)));go_wp2_with (go_at_call 121;refine(zhg _ _).mono ?_;rintro e w' ⟨rfl,rfl⟩)
        go_round
        (case rel=>exact⟨k+1,d+1-Ξ xs[k],by omega,by go_num,by first | go_num | (congr 1;omega),by omega,by omega,H_ (by rw[<-HT.o,HN.o])⟩);case measure=>simp[intOf];omega
    ·(have HN:=H_ (zpx xs k d (by omega)));go_wp2;go_ret;exact⟨φ (by simp[μ,<-HT.o,HN.o,h1,h2]),rfl⟩
  ·go_enter func69,ntmps69
   go_wp2;go_ret;exact⟨φ (by simp[μ];omega),rfl⟩
 ·go_enter func69,ntmps69
  go_wp2;go_ret;exact⟨φ (by simp[μ];omega),rfl⟩
theorem zyl(x:Int):inB x 0 21=true↔¬(x<0\/21<x):=by simp[inB]
theorem zzt(x:Int):inB x 0 21=false↔(x<0\/21<x):=by simp[inB];omega
theorem zai(lo hi:Nat)(v:Value)(xs:List Int)(w:World)(hx:SlI lo hi w v xs)(hm:xs.length<=1048576):
  Calls prog 64 #[v] w λe w'=>e=.returned (.bool (μ xs))/\w=w':=by
 obtain⟨a,cap,rfl,hcap,hcm,hc⟩:=hx.open;clear hx hcm hcap
 go_enter func64,ntmps64
 go_wp2
 go_loop [3,4] (λc i=>∃ (k:Nat) (d:Int),k<=xs.length/\i=.int .i64 k/\c=.int .i64 d/\0<=d/\d<=k/\Q_ (zap (xs.drop k) d=zap xs 0)) (λ_ i=>xs.length-(intOf i).toNat)
 case atStart=>exact⟨0,0,by omega,rfl,rfl,by omega,by omega,H_ rfl⟩
 case round=>
  obtain⟨k,d,hk,rfl,rfl,hd0,hdk,HT⟩:=hrel;by_cases hlt:k<xs.length
  ·obtain⟨b,off,rfl,_,_,_,hcell⟩:=hc k hlt
   clear hc;obtain⟨t0,t1⟩:=zet xs[k];cases hb1:inB xs[k] 0 21
   ·(have HN:=H_ (zik xs k d hlt (by have:=(zzt xs[k]).1 hb1;omega)));go_wp2_with (go_at_call 101;refine(za4 _ _ _ _).mono ?_;rintro e w' ⟨rfl,rfl⟩)
    go_ret;exact⟨φ (zii (by rw[<-HT.o,HN.o])).symm,rfl⟩
   ·by_cases hb3:d<Ξ xs[k]
    ·(have HN:=H_ (zik xs k d hlt (.inr (.inr hb3))));go_wp2_with (first | (go_at_call 101;refine(za4 _ _ _ _).mono ?_;rintro e w' ⟨rfl,rfl⟩) | (go_at_call 117;refine(zma _ _).mono ?_;rintro e w' ⟨rfl,rfl⟩))
     go_ret;exact⟨φ (zii (by rw[<-HT.o,HN.o])).symm,rfl⟩
    ·(have HN:=H_ (zr1 xs k d hlt (by have:=(zyl xs[k]).1 hb1;omega)));go_wp2_with (first | (go_at_call 101;refine(za4 _ _ _ _).mono ?_;rintro e w' ⟨rfl,rfl⟩) | (go_at_call 117;refine(zma _ _).mono ?_;rintro e w' ⟨rfl,rfl⟩))
     go_round
     (case rel=>exact⟨k+1,d+1-Ξ xs[k],by omega,by go_num,by first | go_num | (congr 1;omega),by omega,by omega,H_ (by rw[<-HT.o,HN.o])⟩);case measure=>simp[intOf];omega
  ·have HN:=H_ (zpx xs k d (by omega))
   obtain rfl:k=xs.length:=by omega
   have HK:=H_ (show μ xs=(inB xs.length 1 40&&d==1) by
    simp only[μ,<-HT.o,HN.o,inB];rw[cm_];simp;omega)
   cases hb:inB xs.length 1 40
   ·go_wp2_with (go_at_call 101;refine(za4 _ _ _ _).mono ?_;rintro e w' ⟨rfl,rfl⟩)
    go_ret;exact⟨φ (by rw[HK.o,hb];rfl),rfl⟩
   ·go_wp2_with (go_at_call 101;refine(za4 _ _ _ _).mono ?_;rintro e w' ⟨rfl,rfl⟩)
    go_ret;exact⟨φ (by rw[HK.o,hb];rfl),rfl⟩
inductive KT where
 | leaf (n:Int)
 | star (t:KT)
 | bin (p:Bool) (a b:KT)
def KT.op(p:Bool):Int:=if p then 20 else 19
def KT.post:KT->List Int
 | .leaf n=>[n]
 | .star t=>t.post++[21]
 | .bin p a b=>a.post++b.post++[KT.op p]
def KT.ok(lo:Int):KT->Bool
 | .leaf n=>decide (lo<=n)&&decide (n<=18)
 | .star t=>t.ok lo
 | .bin _ a b=>a.ok lo&&b.ok lo
def KT.size:KT->Nat
 | .leaf _=>1
 | .star t=>t.size+1
 | .bin _ a b=>a.size+b.size+1
theorem KT.post_length:∀ t:KT,t.post.length=t.size
 | .leaf _=>rfl
 | .star t=>by simp[post,size,t.post_length]
 | .bin _ a b=>by simp[post,size,a.post_length,b.post_length];omega
def za2:=@KT.post_length
theorem KT.size_pos(t:KT):1<=t.size:=by cases t<;>simp[KT.size]
theorem zm2(p:Bool):Ξ (KT.op p)=2:=by cases p<;>rfl
theorem zml:Ξ 21=1:=rfl
theorem zko {n:Int}(h:n<=18):Ξ n=0:=zmj n (by omega) (by omega) (by omega)
def zcl:List Int->Int->Option Nat
 | [],n=>if n<=0 then some 0 else none
 | s :: r,n=>if n<=0 then some 0 else (zcl r (n-1+Ξ s)).map (·+1)
theorem zji(r:List Int):zcl r 0=some 0:=by cases r<;>simp[zcl]
theorem ziz(s:Int)(r:List Int)(n:Int)(h:0<n):zcl (s :: r) n=(zcl r (n-1+Ξ s)).map (·+1):=by
 rw[zcl,m_ (by omega)]
theorem zir(lo:Int):∀ (t:KT),t.ok lo=true->∀ (r:List Int) (n:Int),0<n->zcl (t.post.reverse++r) n=(zcl r (n-1)).map (·+t.size)
 | .leaf k,hk,r,n,hn=>by
  simp only[KT.ok,j_,t_]at hk;simp only[KT.post,KT.size,dc_,dj_];rw[ziz _ _ _ hn,zko hk.2,Int.add_zero]
 | .star t,hk,r,n,hn=>by
  simp only[KT.ok]at hk;simp only[KT.post,KT.size,bm_,dc_,ad_,aj_];rw[ziz _ _ _ hn,zml,zir lo t hk r _ (by omega),dq_];rw[show n-1+1-1=n-1 by omega];rfl
 | .bin p a b,hk,r,n,hn=>by
  simp only[KT.ok,j_]at hk;simp only[KT.post,KT.size,bm_,dc_,ad_,aj_,Z_];rw[ziz _ _ _ hn,zm2,zir lo b hk.2 _ _ (by omega),zir lo a hk.1 r _ (by omega),dq_,dq_];rw[show n-1+2-1-1=n-1 by omega]
  congr 1
  funext x
  simp only[Function.comp];omega
def zdx:List KT->List Int
 | []=>[]
 | t :: r=>zdx r++t.post
def zbn(s:Int)(st:List KT):Option (List KT):=
 if Ξ s=2 then match st with
   | b :: a :: r=>some (.bin (s==20) a b :: r)
   | _=>none
  else if Ξ s=1 then match st with
   | a :: r=>some (.star a :: r)
   | _=>none
  else some (.leaf s :: st)
def zar:List Int->List KT->Option (List KT)
 | [],st=>some st
 | s :: r,st=>(zbn s st).bind (zar r)
theorem zx8 {st st':List KT}(h:zbn s st=some st'):zdx st'=zdx st++[s]:=by
 unfold zbn at h
 split at h
 ·rename_i ht
  split at h
  ·injection h with h
   subst h
   have:s=19\/s=20:=by
    unfold Ξ at ht
    split at ht
    ·assumption
    ·split at ht<;>omega
   rcases this with rfl|rfl<;>simp[zdx,KT.post,KT.op]
  ·cases h
 ·split at h
  ·rename_i ht
   split at h
   ·injection h with h
    subst h
    have:s=21:=by
     unfold Ξ at ht
     split at ht
     ·omega
     ·split at ht
      ·assumption
      ·omega
    subst this;simp[zdx,KT.post]
   ·cases h
  ·injection h with h
   subst h;simp[zdx,KT.post]
theorem zlq:∀ (e:List Int) (st st':List KT),zar e st=some st'->zdx st'=zdx st++e
 | [],st,st',h=>by simp[zar] at h;simp[h]
 | s :: r,st,st',h=>by
  simp only[zar,M_]at h;obtain⟨s1,h1,h2⟩:=h;rw[zlq r s1 st' h2,zx8 h1];simp
def oks(lo:Int)(st:List KT):Prop:=∀ t∈st,t.ok lo=true
theorem zpt {lo:Int} {st st':List KT}(hs:lo<=s)(hs':s<=21)(ho:oks lo st)(h:zbn s st=some st'):oks lo st':=by
 unfold zbn at h
 split at h
 ·split at h
  ·injection h with h
   subst h;intro t ht;simp only[N_]at ht;rcases ht with rfl|ht
   ·simp[KT.ok,ho _ (au_ ..),ho _ (cf_ _ (au_ ..))]
   ·exact ho _ (by simp[ht])
  ·cases h
 ·split at h
  ·split at h
   ·injection h with h
    subst h;intro t ht;simp only[N_]at ht;rcases ht with rfl|ht
    ·simp[KT.ok,ho _ (au_ ..)]
    ·exact ho _ (by simp[ht])
   ·cases h
  ·rename_i h1 h2
   injection h with h;subst h;intro t ht;simp only[N_]at ht;rcases ht with rfl|ht
   ·have hle:s<=18:=by
     unfold Ξ at h1 h2;by_cases hh:s=19\/s=20
     ·simp[hh]at h1
     ·by_cases h3:s=21
      ·subst h3;simp at h2
      ·omega
    simp[KT.ok,hs,hle]
   ·exact ho _ ht
theorem z2i {st:List KT}(h:¬(s<0\/21<s\/(st.length:Int)<Ξ s)):∃ st',zbn s st=some st'/\(st'.length:Int)=st.length+1-Ξ s:=by
 unfold zbn;have hb:=zet s
 split
 ·rename_i ht
  match st,h with
  | [],h=>simp at h;omega
  | [x],h=>simp at h;omega
  | b :: a :: r,h=>exact⟨_,rfl,by simp;omega⟩
 ·split
  ·rename_i ht
   match st,h with
   | [],h=>simp at h;omega
   | a :: r,h=>exact⟨_,rfl,by simp;omega⟩
  ·exact⟨_,rfl,by simp;omega⟩
theorem zmu:∀ (e:List Int) (st:List KT) (d:Int),oks 0 st->zap e st.length=some d->∃ st',zar e st=some st'/\oks 0 st'/\(st'.length:Int)=d
 | [],st,d,ho,h=>⟨st,rfl,ho,by simpa [zap] using h⟩
 | s :: r,st,d,ho,h=>by
  rw[zap]at h
  split at h
  ·cases h
  ·rename_i hb
   obtain⟨st1,h1,h2⟩:=z2i hb;rw[<-h2]at h;obtain⟨st',h3,h4,h5⟩:=zmu r st1 d (zpt (by omega) (by omega) ho h1) h;exact⟨st',by simp[zar,h1,h3],h4,h5⟩
theorem zd6 {e:List Int}(h:μ e=true):∃ t:KT,t.ok 0=true/\t.post=e/\zar e []=some [t]/\t.size<=40:=by
 simp only[μ,j_,t_,bu_]at h;obtain⟨⟨h1,h2⟩,h3⟩:=h;obtain⟨st,h4,h5,h6⟩:=zmu e [] 1 (by intro t ht;cases ht) h3
 match st,h6 with
 | [t],_=>
  have hp:=zlq e [] [t] h4;simp only[zdx,ad_]at hp;exact⟨t,h5 t (by simp),hp,h4,by rw[<-t.post_length,hp];exact h2⟩
theorem zhv:∀ (a b:List Int) (st:List KT),zar (a++b) st=(zar a st).bind (zar b)
 | [],b,st=>by simp[zar]
 | s :: r,b,st=>by
  simp only[aj_,zar,Option.bind_assoc]
  congr 1
  funext x
  exact zhv r b x
theorem zeq(lo:Int):∀ (t:KT),t.ok lo=true->∀ st,zar t.post st=some (t :: st)
 | .leaf n,h,st=>by
  simp only[KT.ok,j_,t_]at h;simp[KT.post,zar,zbn,zko h.2]
 | .star t,h,st=>by
  simp only[KT.ok]at h;simp only[KT.post];rw[zhv,zeq lo t h];simp[zar,zbn,zml]
 | .bin p a b,h,st=>by
  simp only[KT.ok,j_]at h;simp only[KT.post];rw[zhv,zhv,zeq lo a h.1];simp only[ab_];rw[zeq lo b h.2];simp only[ab_,zar,zbn,zm2];cases p<;>simp[KT.op]
theorem zw8 {lo:Int} {a b:KT}(ha:a.ok lo=true)(hb:b.ok lo=true)(h:a.post=b.post):a=b:=by
 have h1:=zeq lo a ha [];rw[h,zeq lo b hb]at h1;injection h1 with h1;injection h1 with h1;exact h1.symm
theorem zgt:∀ (a b:List Int) (d:Int),zap (a++b) d=(zap a d).bind (zap b)
 | [],b,d=>by simp[zap]
 | s :: r,b,d=>by
  simp only[aj_,zap]
  split
  ·rfl
  ·exact zgt r b _
theorem zg1:∀ (t:KT),t.ok 0=true->∀ d:Int,0<=d->zap t.post d=some (d+1)
 | .leaf n,h,d,hd=>by
  simp only[KT.ok,j_,t_]at h;have:=zko h.2;simp only[KT.post];rw[zap,m_ (by omega),this];simp[zap]
 | .star t,h,d,hd=>by
  simp only[KT.ok]at h;simp only[KT.post];rw[zgt,zg1 t h d hd];have:=zml;simp only[ab_];rw[zap,m_ (by omega),this];simp[zap]
 | .bin p a b,h,d,hd=>by
  simp only[KT.ok,j_]at h;simp only[KT.post];rw[zgt,zgt,zg1 a h.1 d hd];simp only[ab_];rw[zg1 b h.2 _ (by omega)];have:=zm2 p;simp only[ab_];rw[zap,m_ (by cases p<;>simp[KT.op]at *<;>omega),this];simp only[zap]
  congr 1
  omega
theorem zky {t:KT}(h:t.ok 0=true)(hs:t.size<=40):μ t.post=true:=by
 have:=t.size_pos;simp only[μ,j_,t_,bu_,t.post_length];exact⟨⟨this,hs⟩,zg1 t h 0 (by omega)⟩
theorem zd4(n:Nat)(h:n<4611686018427387904):IntKind.i64.wrap (n:Int)=n:=IntWalk.i64_in _ (by omega)
theorem zs5(a b:Nat)(ha:a<4611686018427387904)(hb:b<4611686018427387904):bits .and .i64 a b=((a &&& b:Nat):Int):=by
 have ha':a%2 ^ 64=a:=b4_ (by omega);have hb':b%2 ^ 64=b:=b4_ (by omega)
 have h:(BitVec.ofInt 64 (a:Int) &&& BitVec.ofInt 64 (b:Int)).toNat=a &&& b:=by
  rw[bv_,bv_,BitVec.toNat_and,cc_,cc_,ha',hb']
 show IntKind.i64.wrap ((BitVec.ofInt 64 (a:Int) &&& BitVec.ofInt 64 (b:Int)).toNat:Int)=_
 rw[h];exact zd4 _ (Nat.and_lt_two_pow (n:=62) _ hb)
theorem zi2(a b:Nat)(ha:a<4611686018427387904)(hb:b<4611686018427387904):bits .or .i64 a b=((a ||| b:Nat):Int):=by
 have ha':a%2 ^ 64=a:=b4_ (by omega);have hb':b%2 ^ 64=b:=b4_ (by omega)
 have h:(BitVec.ofInt 64 (a:Int) ||| BitVec.ofInt 64 (b:Int)).toNat=a ||| b:=by
  rw[bv_,bv_,BitVec.toNat_or,cc_,cc_,ha',hb']
 show IntKind.i64.wrap ((BitVec.ofInt 64 (a:Int) ||| BitVec.ofInt 64 (b:Int)).toNat:Int)=_
 rw[h];exact zd4 _ (ce_ (n:=62) ha hb)
theorem zo1(a b:Nat)(ha:a<4611686018427387904)(hb:b<4611686018427387904):bits .xor .i64 a b=((a ^^^ b:Nat):Int):=by
 have ha':a%2 ^ 64=a:=b4_ (by omega);have hb':b%2 ^ 64=b:=b4_ (by omega)
 have h:(BitVec.ofInt 64 (a:Int) ^^^ BitVec.ofInt 64 (b:Int)).toNat=a ^^^ b:=by
  rw[bv_,bv_,BitVec.toNat_xor,cc_,cc_,ha',hb']
 show IntKind.i64.wrap ((BitVec.ofInt 64 (a:Int) ^^^ BitVec.ofInt 64 (b:Int)).toNat:Int)=_
 rw[h];exact zd4 _ (Nat.xor_lt_two_pow (n:=62) ha hb)
theorem zts(x y:Int)(h1:0<=x)(h2:x<4611686018427387904)(h3:0<=y)(h4:y<4611686018427387904):0<=bits .xor .i64 x y:=by
 have h:=zo1 x.toNat y.toNat (by omega) (by omega);rw[show ((x.toNat:Nat):Int)=x by omega,show ((y.toNat:Nat):Int)=y by omega]at h;rw[h];exact Int.natCast_nonneg _
def zea(t:Nat):Nat->List UInt8
 | 0=>[]
 | k+1=>zea t k++(if (t >>> k)%2=1 then [UInt8.ofNat (48+k)] else [])
def ze5:Nat->Option (List UInt8)
 | 0=>some [48]
 | 15=>some [49]
 | 10=>some [112]
 | 12=>some [113]
 | 5=>some [33,112]
 | 3=>some [33,113]
 | _=>none
def Ω(t:Nat):List UInt8:=match ze5 t with | some s=>s | none=>91 :: zea t 4++[93]
def hb(t k:Nat):Bool:=(t >>> k)%2==1
theorem zry(t:Int)(w:World):Calls prog 118 #[.int .i64 t] w λe w'=>e=.returned (.bool (inB t 0 15))/\w=w':=by
 go_enter func118,ntmps118
 by_cases h1:0<=t
 ·by_cases h2:t<=15
  ·go_wp2
   go_ret;exact⟨φ (by simp[inB,h1,h2]),rfl⟩
  ·go_wp2
   go_ret;exact⟨φ (by simp[inB];omega),rfl⟩
 ·go_wp2
  go_ret;exact⟨φ (by simp[inB];omega),rfl⟩
theorem zf9(t k:Nat)(ht:t<16)(hk:k<4)(w:World):Calls prog 148 #[.int .i64 t,.int .i64 k] w λe w'=>e=.returned (.bool (hb t k))/\w=w':=by
 have⟨h1,h2⟩:(t=0\/t=1\/t=2\/t=3\/t=4\/t=5\/t=6\/t=7\/t=8\/t=9\/t=10\/t=11\/t=12\/t=13\/t=14\/t=15)/\(k=0\/k=1\/k=2\/k=3):=by omega
 clear ht hk;rcases h2 with rfl|rfl|rfl|rfl
 all_goals rcases h1 with rfl | rfl | rfl | rfl | rfl | rfl | rfl | rfl | rfl | rfl | rfl | rfl | rfl | rfl | rfl | rfl
 all_goals (go_enter func148,ntmps148;go_wp2;go_ret;exact⟨rfl,rfl⟩)
theorem zsi(t k:Nat)(ht:t<16)(hk:k<4)(w:World):Calls prog 109 #[.int .i64 t,.int .i64 k] w λe w'=>e=.returned (.int .i64 (if hb t k then 1 else 0))/\w=w':=by
 have⟨h1,h2⟩:(t=0\/t=1\/t=2\/t=3\/t=4\/t=5\/t=6\/t=7\/t=8\/t=9\/t=10\/t=11\/t=12\/t=13\/t=14\/t=15)/\(k=0\/k=1\/k=2\/k=3):=by omega
 clear ht hk;rcases h2 with rfl|rfl|rfl|rfl
 all_goals rcases h1 with rfl | rfl | rfl | rfl | rfl | rfl | rfl | rfl | rfl | rfl | rfl | rfl | rfl | rfl | rfl | rfl
 all_goals (go_enter func109,ntmps109;go_wp2;go_ret;exact⟨rfl,rfl⟩)
theorem zqx(h:hb t k=true):zea t (k+1)=zea t k++[UInt8.ofNat (48+k)]:=by
 simp only[hb,bu_]at h;simp[zea,h]
theorem zn9(h:hb t k=false):zea t (k+1)=zea t k:=by
 have h':¬(t >>> k)%2=1:=by simpa [hb] using h
 simp[zea,h']
theorem zfv(l:List UInt8)(c:UInt8)(l':List UInt8)(h:l'=l++[c]):(ByteArray.mk l.toArray)++(ByteArray.mk #[c])=ByteArray.mk l'.toArray:=by
 subst h
 show ByteArray.mk l.toArray++ByteArray.mk [c].toArray=_
 rw[bn_]
def zdb(w:World):Prop:=∃ bm,w.cell? (p_ 0 0)=some (.map (some bm))/\bm<w.heap.size /\
 ∀ w':World,w'.heap[bm]?=w.heap[bm]?->∀ t:Nat,t<16 ->
  (Instr.lookup 109 (.map (some bm)) t true).run prog w'=.ok (match ze5 t with | some s=>.tuple #[.string ⟨s.toArray⟩,.bool true] | none=>.tuple #[.string ⟨#[]⟩,.bool false]) w'
theorem zdb.below(h:zdb w)(hb:Below w w w'):zdb w':=by
 obtain⟨bm,h1,h2,h3⟩:=h;refine⟨bm,(hb.cell (as_ w _ h1)).trans h1,T_ h2 hb.size,λw2 h=>h3 w2 (h.trans (hb.block bm h2))⟩
theorem zi6(t:Nat)(ht:t<16)(w:World)(hM:zdb w):
  Calls prog 95 #[.int .i64 t] w λe w'=>e=.returned (.string ⟨(Ω t).toArray⟩)/\w=w':=by
 obtain⟨bm,c0,_,hlook⟩:=hM;have hl:=hlook w rfl t ht;clear hlook;have hv:inB (t:Int) 0 15=true:=by simp[inB];omega
 cases hn:ze5 t with
 | some s=>
  rw[hn]at hl;have HT:=H_ (show Ω t=s by simp[Ω,hn]);clear hn
  go_enter func95,ntmps95
  go_wp2_with (go_at_call 118;refine(zry _ _).mono ?_;rintro e w' ⟨rfl,rfl⟩)
  go_ret;exact⟨by rw[HT.o];rfl,rfl⟩
 | none=>
  rw[hn]at hl;have HT:=H_ (show Ω t=91 :: zea t 4++[93] by simp[Ω,hn]);clear hn
  go_enter func95,ntmps95
  go_wp2_with (go_at_call 118;refine(zry _ _).mono ?_;rintro e w' ⟨rfl,rfl⟩)
  go_loop [5,18] (λs i=>∃ (k:Nat) (l:List UInt8),k<=4/\i=.int .i64 k/\s=.string ⟨l.toArray⟩/\l.length<=1+k/\Q_ (l=91 :: zea t k)) (λ_ i=>4-(intOf i).toNat)
  case atStart=>exact⟨0,[91],by omega,rfl,rfl,by simp,H_ rfl⟩
  case round=>
   obtain⟨k,l,hk,rfl,rfl,hlen,HL⟩:=hrel;by_cases hlt:k<4
   ·cases hq:hb t k
    ·(have HN:=H_ (zn9 hq));go_wp2_with (go_at_call 148;refine(zf9 t k ht hlt _).mono ?_;rintro e w' ⟨rfl,rfl⟩)
     go_round
     (case rel=>exact⟨k+1,l,by omega,by go_num,rfl,by omega,H_ (by rw[HL.o,HN.o])⟩);case measure=>simp[intOf];omega
    ·(have HN:=H_ (zqx hq));(have hk4:k=0\/k=1\/k=2\/k=3:=by omega);rcases hk4 with rfl|rfl|rfl|rfl
     ·(have hu:(Utf8.encode 48).size=1:=rfl);go_wp2_with (go_at_call 148;refine(zf9 t 0 ht hlt _).mono ?_;rintro e w' ⟨rfl,rfl⟩)
      go_round
      (case rel=>exact⟨1,l++[48],by omega,by go_num,congrArg Value.string (zfv _ _ _ rfl),by simp;omega,H_ (by rw[HL.o,HN.o];rfl)⟩);case measure=>simp[intOf]
     ·(have hu:(Utf8.encode 49).size=1:=rfl);go_wp2_with (go_at_call 148;refine(zf9 t 1 ht hlt _).mono ?_;rintro e w' ⟨rfl,rfl⟩)
      go_round
      (case rel=>exact⟨2,l++[49],by omega,by go_num,congrArg Value.string (zfv _ _ _ rfl),by simp;omega,H_ (by rw[HL.o,HN.o];rfl)⟩);case measure=>simp[intOf]
     ·(have hu:(Utf8.encode 50).size=1:=rfl);go_wp2_with (go_at_call 148;refine(zf9 t 2 ht hlt _).mono ?_;rintro e w' ⟨rfl,rfl⟩)
      go_round
      (case rel=>exact⟨3,l++[50],by omega,by go_num,congrArg Value.string (zfv _ _ _ rfl),by simp;omega,H_ (by rw[HL.o,HN.o];rfl)⟩);case measure=>simp[intOf]
     ·(have hu:(Utf8.encode 51).size=1:=rfl);go_wp2_with (go_at_call 148;refine(zf9 t 3 ht hlt _).mono ?_;rintro e w' ⟨rfl,rfl⟩)
      go_round
      (case rel=>exact⟨4,l++[51],by omega,by go_num,congrArg Value.string (zfv _ _ _ rfl),by simp;omega,H_ (by rw[HL.o,HN.o];rfl)⟩);case measure=>simp[intOf]
   ·(obtain rfl:k=4:=by omega);go_wp2;go_ret;exact⟨congrArg (λb=>Ending.returned (Value.string b)) (zfv _ _ _ (by rw[HT.o,HL.o])),rfl⟩
def zbo(l:List UInt8):Option Nat:=(List.range 16).find? λt=>Ω t==l
def NoT(l:List UInt8)(k:Nat):Prop:=∀ j,j<k->Ω j≠l
theorem zs9 {l:List UInt8}(hk:k<16)(hn:NoT l k)(h:Ω k=l):zbo l=some k:=by
 unfold zbo;rw[List.find?_range_eq_some];refine⟨by simpa using h,by simpa using hk,λj hj=>by simpa using hn j hj⟩
theorem zpz {l:List UInt8}(hn:NoT l 16):zbo l=none:=by
 unfold zbo;rw[List.find?_eq_none];intro t ht
 simpa using hn t (by simpa using ht)
def rdT:Option Nat->Value
 | some t=>.tuple #[.int .i64 t,.bool true]
 | none=>.tuple #[.int .i64 (-1),.bool false]
theorem zdm(l:List UInt8)(s:ByteArray)(hs:s=⟨l.toArray⟩)(w:World)(hM:zdb w):
  Calls prog 217 #[.string s] w λe w'=>e=.returned (rdT (zbo l))/\w=w':=by
 subst hs;have HM:=H_ hM;clear hM
 go_enter func217,ntmps217
 go_wp2
 go_loop [5] (λi=>∃ k:Nat,k<=16/\i=.int .i64 k/\Q_ (NoT l k)) (λi=>16-(intOf i).toNat)
 case atStart=>exact⟨0,by omega,rfl,H_ (by intro j hj;omega)⟩
 case round=>
  obtain⟨k,hk,rfl,HN⟩:=hrel;by_cases hlt:k<16
  ·cases hq:(Ω k==l)
   ·go_wp2_with (go_at_call 95;refine(zi6 k hlt _ HM.o).mono ?_;rintro e w' ⟨rfl,rfl⟩)
    go_round
    case rel=>
     refine⟨k+1,by omega,by go_num,H_ ?_⟩;intro j hj;rcases bi_ j k with h|h
     ·exact HN.o j h
     ·(obtain rfl:j=k:=by omega);simpa using hq
    case measure=>simp[intOf];omega
   ·(have HR:=H_ (zs9 hlt HN.o (by simpa using hq)));go_wp2_with (go_at_call 95;refine(zi6 k hlt _ HM.o).mono ?_;rintro e w' ⟨rfl,rfl⟩)
    go_ret2
    exact⟨by rw[HR.o];rfl,rfl⟩
  ·obtain rfl:k=16:=by omega
   have HR:=H_ (zpz HN.o);go_wp2
   go_ret2
   exact⟨by rw[HR.o];rfl,rfl⟩
abbrev PR:=List UInt8->Option (List Int × List UInt8)
def ze3(sum:PR):PR
 | []=>none
 | c :: r=>
  if c.toNat=40 then
   match sum r with
   | some (e,d :: r2)=>if d.toNat=41 then some (e,r2) else none
   | _=>none
  else if c.toNat=33\/c.toNat=91 then none
  else if 97<=c.toNat/\c.toNat<=99 then some ([16+((c.toNat:Int)-97)],r)
  else match zbo [c] with
   | some t=>some ([(t:Int)],r)
   | none=>none
def zab:List Int->List UInt8->List Int × List UInt8
 | e,[]=>(e,[])
 | e,c :: r=>if c.toNat=42 then zab (e++[21]) r else (e,c :: r)
def zak(single:PR):PR:=λs=>(single s).map λx=>zab x.1 x.2
def Ζ(sign:Nat)(op:Int)(part:PR):Nat->List Int->PR
 | _,e,[]=>some (e,[])
 | 0,e,c :: r=>if c.toNat=sign then none else some (e,c :: r)
 | n+1,e,c :: r=>if c.toNat=sign then (part r).bind λx=>Ζ sign op part n (e++x.1++[op]) x.2 else some (e,c :: r)
def Φ(sign:Nat)(op:Int)(part:PR):PR:=λs=>(part s).bind λx=>Ζ sign op part x.2.length x.1 x.2
def ze2:Nat->PR
 | 0=>λ_=>none
 | n+1=>Φ 43 20 (Φ 59 19 (zak (ze3 (ze2 n))))
def zcr(p:PR):Prop:=∀ s e r,p s=some (e,r)->∃ k,1<=k/\k<=s.length/\r=s.drop k
theorem znt:∀ (s:List UInt8) (e e':List Int) (r:List UInt8),zab e s=(e',r)->∃ k,k<=s.length/\r=s.drop k
 | [],e,e',r,h=>by simp[zab] at h;exact⟨0,by simp,by simp[h.2]⟩
 | c :: t,e,e',r,h=>by
  simp only[zab]at h
  split at h
  ·obtain⟨k,h1,h2⟩:=znt t _ _ _ h
   exact⟨k+1,by simp;omega,by rw[h2];simp⟩
  ·injection h with _ h
   exact⟨0,by simp,by rw[<-h];rfl⟩
theorem zi0 {single:PR}(h:zcr single):zcr (zak single):=by
 intro s e r hs;simp only[zak,W_]at hs;obtain⟨⟨e1,r1⟩,h1,h2⟩:=hs;obtain⟨k,k1,k2,k3⟩:=h _ _ _ h1;obtain⟨j,j1,j2⟩:=znt _ _ _ _ h2;replace j1:j<=r1.length:=j1;replace j2:r=r1.drop j:=j2;have:r1.length=s.length-k:=by rw[k3];simp
 exact⟨k+j,by omega,by omega,by rw[j2,k3,dr_]⟩
theorem zjb {op:Int} {part:PR}(h:zcr part):∀ (n:Nat) (s:List UInt8) (e e':List Int) (r:List UInt8),Ζ sign op part n e s=some (e',r)->∃ k,k<=s.length/\r=s.drop k
 | n,[],e,e',r,hs=>by cases n<;>(simp[Ζ] at hs;exact⟨0,by simp,by simp[hs.2]⟩)
 | 0,c :: t,e,e',r,hs=>by
  simp only[Ζ]at hs
  split at hs
  ·cases hs
  ·injection hs with hs
   injection hs with _ hs;exact⟨0,by simp,by rw[<-hs];rfl⟩
 | n+1,c :: t,e,e',r,hs=>by
  simp only[Ζ]at hs
  split at hs
  ·simp only[M_]at hs
   obtain⟨⟨e1,r1⟩,h1,h2⟩:=hs;obtain⟨k,k1,k2,k3⟩:=h _ _ _ h1;obtain⟨j,j1,j2⟩:=zjb h n _ _ _ _ h2;replace j1:j<=r1.length:=j1;replace j2:r=r1.drop j:=j2;have:r1.length=t.length-k:=by rw[k3];simp
   exact⟨k+j+1,by simp;omega,by rw[j2,k3,dr_];simp⟩
  ·injection hs with hs
   injection hs with _ hs;exact⟨0,by simp,by rw[<-hs];rfl⟩
theorem zjk {op:Int} {part:PR}(h:zcr part):zcr (Φ sign op part):=by
 intro s e r hs;simp only[Φ,M_]at hs;obtain⟨⟨e1,r1⟩,h1,h2⟩:=hs;obtain⟨k,k1,k2,k3⟩:=h _ _ _ h1;obtain⟨j,j1,j2⟩:=zjb h _ _ _ _ _ h2;replace j1:j<=r1.length:=j1;replace j2:r=r1.drop j:=j2;have:r1.length=s.length-k:=by rw[k3];simp
 exact⟨k+j,by omega,by omega,by rw[j2,k3,dr_]⟩
theorem zbz {row:Option Nat}(hg:w.grownBy w' row)(h:∀ k,row=some k->lo<=k/\k<hi):β lo hi w w':=
 ⟨hg.os,hg.tape,hg.output,hg.size,λk hk hd=>hg.block k hk (λe=>by have:=h k e.symm;omega)⟩
theorem Own.lt {xs:List Value}(h:Own sz lo hi e w v n xs):∀ k,v.ownBlock=some k->lo<=k/\k<hi:=
 λk hk=>⟨(h.1.lt k hk).1,h.2 k hk⟩
theorem Own.of_row {xs:List Value}(h:w.ownsRow lo e sz v n xs):Own sz lo w e w v n xs:=
 ⟨h,λk hk=>(h.lt k hk).2⟩
def zfp:=@Own.of_row
theorem Own.nil(sz lo hi e:Nat)(w:World):Own sz lo hi e w () 0 []:=⟨World.ownsRow_nil _ _ _ _,by simp[Value.ownBlock]⟩
def zaa:=@Own.nil
theorem Own.drewN {xs:List Value}(h:Own sz lo hi e w v n xs)(m:Nat):Own sz lo hi e (w.drewN m) v n xs:=h
theorem Own.wide {xs:List Value}(h:Own sz lo hi e w v n xs)(hh:hi<=hi'):Own sz lo hi' e w v n xs:=
 ⟨h.1,λk hk=>T_ (h.2 k hk) hh⟩
def zgc:=@Own.wide
theorem Own.wide2 {xs:List Value}(h:Own sz lo hi e w v n xs)(hl:lo'<=lo)(hh:hi<=hi'):Own sz lo' hi' e w v n xs:=by
 obtain⟨⟨h1,h2⟩,h3⟩:=h;refine⟨⟨h1,?_⟩,λk hk=>T_ (h3 k hk) hh⟩;rcases h2 with h2|⟨g,cap,cur,hv,hb,hrest⟩
 ·exact .inl h2
 ·exact .inr ⟨g,cap,cur,hv,J_ hl hb,hrest⟩
def zbh:=@Own.wide2
theorem Own.alloc {xs:List Value}(h:Own sz lo hi e w v n xs)(o:Obj):Own sz lo hi e (w.alloc o) v n xs:=
 ⟨h.1.alloc o,h.2⟩
theorem Own.lit(sz e:Nat)(w:World)(cs:List Value)(n:Nat)(hm:n<=1073741824)(hs:cs.length=n*sz):
  Own sz w (w+1) e (w.alloc (.cells cs.toArray e)) (.slice (q_ w 0) n n) n cs:=by
 refine⟨World.ownsRow_lit (base:=w.heap.size) (size:=sz) w cs.toArray n (le_ _) (by unfold maxLen;omega) (by simpa using hs),λg hg=>?_⟩;simp[Value.ownBlock]at hg;omega
def ς:=@Own.lit
section
variable {P:Program} {w:World} {ops:Array Oper} {rest:List Oper} {o:Oper} {a:Act} {Q:Exit->Act->World->Prop}
theorem Τ(hgd:o.guard=none)(s x:Operand)(t:TypeId)
  (ho:o.op=.call { callee:=.builtin .append,args:=#[s,x],argTypes:=#[t,t] })
  (e:TypeId) (z:Value) (sz bytes:Nat) (ht:P.underlying t=some (.slice e)) (hinfo:(P.info? e).map (λi=>(i.zero,i.size,i.bytes))=some (some z,sz,bytes))
  (hzs:z.cells.size=sz) (hsz:0<sz) (hby:bytes<=64)
  {lo hi lo' hi' n:Nat} {v:Value} {xs:List Value} (hs:a.eval s=v) (hown:Own sz lo hi e w v n xs)
  {vx:Value} {m:Nat} {ys:List Value} (hx:a.eval x=vx) (hsl:Sl sz lo' hi' w vx m ys) (h1:∀ u∈ys,u.oneCell'=true)
  (hn:n+m<=1073741824) (hlo:lo<=w)
  (h:∀ v' w',Own sz lo w'.heap.size e w' v' (n+m) (xs++ys)->w.grownBy w' v.ownBlock->β lo hi w w'->(v'=.slice none 0 0↔v=.slice none 0 0/\m=0)->wpList P ops Q rest (a.put o.dst v') w'):wpList P ops Q (o :: rest) a w:=by
 obtain⟨i,hi0,hz,hsize,hb⟩:=b8_ hinfo;obtain⟨ao,c,rfl,hmc,hcm,hlen,hnone,hc⟩:=hsl;have hmx:(n+m)*bytes<=140737488355328:=J_ (bk_ hn hby) (by decide);cases ao with
 | none=>
  obtain rfl:=hnone rfl;obtain rfl:m=0:=by omega
  obtain rfl:ys=[]:=A_ (by simpa using hlen);refine wpList_plain hgd λK hK=>?_
  have hrun:=run_append_owned_none (P:=P) w lo t o.type e i sz ht hi0 _ n xs hown.1;have hk:=h v w (by simpa using ⟨hown.1,λg hg=>(hown.1.lt g hg).2⟩) (World.grownBy.refl _ _) (β.refl _ _ _) (by simp);unfold Oper.wp;simp[execOp,ho,resolve,invoke,builtin,hs,hx,hrun,Result.andThen];exact hK _ _ hk
 | some ad=>
  refine wpList_append_own w hgd s x t ho lo e i z sz bytes ht hi0 hz hsize hb hzs hsz v n xs hs hown.1 ad m c ys hx hlen ?_ h1 (by unfold maxLen;omega) hmx hlo ?_
  ·intro j u hu
   have hj:=(a3_.1 hu).1;obtain⟨b,off,e1,_,_,_,e2⟩:=hc j hj;injection e1 with e1;subst e1;rw[a5_,e2,hu]
  ·intro v' w' h2 h3 h4
   exact h v' w' (zfp h2) h3 (zbz h3 hown.lt) h4
theorem zah(w0:World)(hgd:o.guard=none)(s x:Operand)(t:TypeId)
  (ho:o.op=.call { callee:=.builtin .append,args:=#[s,x],argTypes:=#[t,t] })
  (e:TypeId) (z:Value) (sz bytes:Nat) (ht:P.underlying t=some (.slice e)) (hinfo:(P.info? e).map (λi=>(i.zero,i.size,i.bytes))=some (some z,sz,bytes))
  (hzs:z.cells.size=sz) (hsz:0<sz) (hby:bytes<=64)
  {lo hi n:Nat} {v:Value} {xs:List Value} (hs:a.eval s=v) (hown:Own sz lo hi e w0 v n xs)
  (m:Nat) (ys:List Value) (hx:a.eval x=.slice (q_ w0 0) m m) (hlen:ys.length=m*sz) (h1:∀ u∈ys,u.oneCell'=true) (hw:w=w0.alloc (.cells ys.toArray e))
  (hn:n+m<=1073741824) (hlo:lo<=w0)
  (h:∀ v' w',Own sz lo w'.heap.size e w' v' (n+m) (xs++ys)->β lo hi w0 w'->(v'=.slice none 0 0↔v=.slice none 0 0/\m=0)->wpList P ops Q rest (a.put o.dst v') w'):wpList P ops Q (o :: rest) a w:=by
 subst hw;have hl:=(ς sz e w0 ys m (by omega) hlen).sl;refine Τ hgd s x t ho e z sz bytes ht hinfo hzs hsz hby hs (hown.alloc _) hx hl h1 hn (by simp;omega) ?_;intro v' w' h2 _ h3 h4;have hb:β lo hi w0 (w0.alloc (.cells ys.toArray e)):=β.of_below ((B_ _ _).alloc (le_ _) _) (le_ _);exact h v' w' h2 (hb.trans h3) h4
end
theorem Β(xs:List Int):∀ u∈ints xs,u.oneCell'=true:=ints_oneCell _ _
theorem zae(xs ys:List Int):ints (xs++ys)=ints xs++ints ys:=by simp[ints]
theorem ν(w:World)(o:Obj):(w.alloc o).heap.size=w.heap.size+1:=by simp
def Blk(g:Nat)(o:Obj)(w:World):Prop:=w.heap[g]?=some o
theorem Blk.new(w:World)(o:Obj):Blk w o (w.alloc o):=ba_ w o
def κ:=@Blk.new
theorem Blk.lt {o:Obj}(h:Blk g o w):g<w:=(L_.1 h).1
theorem Blk.below {o:Obj}(h:Blk g o w)(hb:Below B w w')(hB:g<B):Blk g o w':=(hb.block g hB).trans h
theorem Blk.outside {o:Obj}(h:Blk g o w)(hb:β lo hi w w')(hd:g<lo\/hi<=g):Blk g o w':=(hb.block g h.lt (by omega)).trans h
def zaz:=@Blk.outside
theorem Blk.cell {e:TypeId}(h:Blk g (.cells cs e f) w)(j:Nat):w.cell? (p_ g j)=cs[j]?:=by
 simp only[World.cell?,show w.heap[g]?=_ from h];rfl
theorem Blk.free {e:TypeId}(h:Blk g (.cells cs e (0,0)) w)(j:Nat):w.frozen? (p_ g j)=false:=by
 simp[World.frozen?,show w.heap[g]?=_ from h]
theorem Blk.c2 {e:TypeId}(h:Blk g (.cells cs e f) w):w.cell? (p_ g 0)=cs[0]?/\w.cell? (p_ g 1)=cs[1]?:=
 ⟨h.cell 0,h.cell 1⟩
theorem Blk.f2 {e:TypeId}(h:Blk g (.cells cs e (0,0)) w):w.frozen? (p_ g 0)=false/\w.frozen? (p_ g 1)=false:=
 ⟨h.free 0,h.free 1⟩
theorem Blk.c3 {e:TypeId}(h:Blk g (.cells cs e f) w):w.cell? (p_ g 0)=cs[0]?/\w.cell? (p_ g 1)=cs[1]?/\w.cell? (p_ g 2)=cs[2]?:=
 ⟨h.cell 0,h.cell 1,h.cell 2⟩
theorem Blk.f3 {e:TypeId}(h:Blk g (.cells cs e (0,0)) w):w.frozen? (p_ g 0)=false/\w.frozen? (p_ g 1)=false/\w.frozen? (p_ g 2)=false:=
 ⟨h.free 0,h.free 1,h.free 2⟩
theorem Blk.c4 {e:TypeId}(h:Blk g (.cells cs e f) w):w.cell? (p_ g 0)=cs[0]?/\w.cell? (p_ g 1)=cs[1]?/\w.cell? (p_ g 2)=cs[2]?/\w.cell? (p_ g 3)=cs[3]?:=
 ⟨h.cell 0,h.cell 1,h.cell 2,h.cell 3⟩
theorem Blk.f4 {e:TypeId}(h:Blk g (.cells cs e (0,0)) w):w.frozen? (p_ g 0)=false/\w.frozen? (p_ g 1)=false/\w.frozen? (p_ g 2)=false/\w.frozen? (p_ g 3)=false:=
 ⟨h.free 0,h.free 1,h.free 2,h.free 3⟩
theorem Blk.c5 {e:TypeId}(h:Blk g (.cells cs e f) w):w.cell? (p_ g 0)=cs[0]?/\w.cell? (p_ g 1)=cs[1]?/\w.cell? (p_ g 2)=cs[2]?/\w.cell? (p_ g 3)=cs[3]?/\w.cell? (p_ g 4)=cs[4]?:=
 ⟨h.cell 0,h.cell 1,h.cell 2,h.cell 3,h.cell 4⟩
theorem Blk.f5 {e:TypeId}(h:Blk g (.cells cs e (0,0)) w):w.frozen? (p_ g 0)=false/\w.frozen? (p_ g 1)=false/\w.frozen? (p_ g 2)=false/\w.frozen? (p_ g 3)=false/\w.frozen? (p_ g 4)=false:=
 ⟨h.free 0,h.free 1,h.free 2,h.free 3,h.free 4⟩
theorem zan(lo hi lo' hi':Nat)(va vb:Value)(xs ys:List Int)(s:Int)(w:World)(hx:SlI lo hi w va xs)(hy:SlI lo' hi' w vb ys)(hh:hi<=w)(hh':hi'<=w)
  (hm:xs.length+ys.length<=4194304) :
  Calls prog 124 #[va,vb,.int .i64 s] w (ε λv w'=>Below w w w'/\γ w w' 3 w' v (xs++ys++[s])):=by
 have HX:=H_ hx;have HY:=H_ hy;clear hx hy;have H0:Q_ (Own 1 w (w+1) 3 (w.alloc (.cells (ints []).toArray 3)) (.slice (q_ w 0) 0 0) 0 (ints [])):=H_ (ς 1 3 w (ints []) 0 (by omega) rfl);have hb0:Q_ (Below w w (w.alloc (.cells (ints []).toArray 3))):=H_ ((B_ _ _).alloc (le_ _) _);have hs0:(w.alloc (.cells (ints []).toArray 3)).heap.size=w.heap.size+1:=by simp
 have KX:=H_ (HX.o.below hb0.o hh);have KY:=H_ (HY.o.below hb0.o hh');have⟨w0,hw0⟩:=xa_ w (ints []).toArray 3;rw[<-hw0]at H0 hb0 hs0 KX KY;have HW0:=H_ hw0;clear hw0
 go_enter func124,ntmps124
 go_wp2_with (at_builtin;go_loud (rw[show w.alloc (.cells #[] 3)=w0 from HW0.o.symm];refine Τ rfl _ _ 22 rfl 3 (0:Int) 1 8 underlying22 τ rfl (by decide) (by decide) rfl H0.o rfl KX.o (Β _) ?c1 ?c2 ?_))
 case c1=>omega
 case c2=>omega
 intro v1 w1 ho1 _ hout1 _;have hs1:=hout1.size;have O1:=H_ ho1;replace KY:=H_ (KY.o.outside hout1 (.inl hh'));have HB1:=H_ (δ hb0.o hout1 (le_ _) hb0.o.size);clear ho1 hout1 KX H0 hb0 HW0;go_wp2_with (at_builtin;refine Τ rfl _ _ 22 rfl 3 (0:Int) 1 8 underlying22 τ rfl (by decide) (by decide) rfl O1.o rfl KY.o (Β _) ?c1 ?c2 ?_)
 case c1=>omega
 case c2=>omega
 intro v2 w2 ho2 _ hout2 _;have hs2:=hout2.size;have O2:=H_ ho2;have HB2:=H_ (δ HB1.o hout2 (le_ _) HB1.o.size);clear ho2 hout2 KY O1 HB1;go_wp2_with (at_builtin;refine zah w2 rfl _ _ 22 rfl 3 (0:Int) 1 8 underlying22 τ rfl (by decide) (by decide) rfl O2.o 1 (ints [s]) rfl rfl (Β _) rfl ?c1 ?c2 ?_)
 case c1=>omega
 case c2=>omega
 intro v3 w3 ho3 hout3 _;have O3:=H_ ho3;have HB3:=H_ (δ HB2.o hout3 (le_ _) HB2.o.size);clear ho3 hout3 O2 HB2;go_wp2;go_ret;refine ε.mk _ rfl ⟨HB3.o,?_⟩;have h:=O3.o;have e1:(xs++ys++[s]).length=xs.length+ys.length+1:=by simp;omega
 have e2:ints (xs++ys++[s])=ints []++(ints xs++(ints ys++ints [s])):=by simp[ints]
 unfold γ;rw[e1,e2];exact h
def zat(n:Int):Bool:=decide (16<=n)&&decide (n<=18)
theorem zb6(n:Int)(w:World):
  Calls prog 176 #[.int .i64 n] w λe w'=>e=.returned (.bool (zat n))/\w=w':=by
 go_enter func176,ntmps176
 by_cases h1:16<=n
 ·by_cases h2:n<=18
  ·go_wp2
   go_ret;exact⟨φ (by simp[zat,h1,h2]),rfl⟩
  ·go_wp2
   go_ret;exact⟨φ (by simp[zat];omega),rfl⟩
 ·go_wp2
  go_ret;exact⟨φ (by simp[zat];omega),rfl⟩
def Η(n:Nat):List UInt8:=if n<10 then [UInt8.ofNat (48+n)] else [UInt8.ofNat (48+n/10),UInt8.ofNat (48+n%10)]
theorem zbw {a b:List UInt8}(h:a=b):Ending.returned (.string ⟨a.toArray⟩)=.returned (.string ⟨b.toArray⟩):=by rw[h]
theorem zih {P:Program}(src dst e:TypeId)(hs:P.underlying src=some (.slice e))(he:P.underlying e=some (.int .u8))(hd:P.underlying dst=some .string)(w:World)(ns:List Int):
    Sem.run P (convert src dst (.slice (q_ w 0) ns ns.length)) (w.alloc (.cells (ns.map (Value.int .u8)).toArray e)) =
      .ok (.string ⟨(ns.map λn=>UInt8.ofNat n.toNat).toArray⟩) (w.alloc (.cells (ns.map (Value.int .u8)).toArray e)):=by
  have h:=dk_ (P:=P) (w:=w.alloc (.cells (ns.map (Value.int .u8)).toArray e)) src e hs he w 0 ns.length ns.length ns rfl
    (by intro i hi
        rw[World.cell?,ba_];simp[List.getD,hi]) dst hd
  exact h
structure Mv where
 which:Int
 back:Bool
 at_:Int
deriving DecidableEq
def zbu(m:Mv):List Value:=[.int .i64 m.which,.bool m.back,.int .i64 m.at_]
def mvs(l:List Mv):List Value:=l.flatMap zbu
theorem zid(l:List Mv):(mvs l).length=l.length*3:=by
 induction l with
 | nil=>rfl
 | cons m r ih=>simp only[mvs,da_,n_] at *;rw[ih];simp[zbu];omega
theorem zuj(l:List Mv):∀ (i:Nat) (h:i<l.length),(mvs l)[i*3]?=some (.int .i64 l[i].which)/\(mvs l)[i*3+1]?=some (.bool l[i].back)/\(mvs l)[i*3+2]?=some (.int .i64 l[i].at_):=by
 induction l with
 | nil=>intro i h;simp at h
 | cons m r ih=>
  intro i h;cases i with
  | zero=>simp[mvs,zbu]
  | succ i=>
   have hi:i<r.length:=by simpa using h
   obtain⟨h1,h2,h3⟩:=ih i hi
   have e:∀ j,(mvs (m :: r))[(i+1)*3+j]?=(mvs r)[i*3+j]?:=by
    intro j;have:(mvs (m :: r))=zbu m++mvs r:=by simp[mvs]
    rw[this,a2_ (by simp[zbu];omega)]
    congr 1
    simp[zbu];omega
   refine⟨?_,?_,?_⟩
   ·rw[show (i+1)*3=(i+1)*3+0 by omega,e 0];simpa using h1
   ·rw[e 1];simpa using h2
   ·rw[e 2];simpa using h3
theorem zgk(l:List Mv):∀ u∈mvs l,u.oneCell'=true:=by
 intro u hu;simp only[mvs,List.mem_flatMap]at hu;obtain⟨m,_,hm⟩:=hu;simp[zbu]at hm;rcases hm with rfl|rfl|rfl<;>rfl
def SlM(lo hi:Nat)(w:World)(v:Value)(l:List Mv):Prop:=Sl 3 lo hi w v l.length (mvs l)
def Ν(lo hi e:Nat)(w:World)(v:Value)(l:List Mv):Prop:=Own 3 lo hi e w v l.length (mvs l)
theorem Ν.sl {l:List Mv}(h:Ν lo hi e w v l):SlM lo hi w v l:=zcq h
theorem Ν.below {xs:List Mv}(h:Ν lo hi e w v xs)(hb:Below B w w')(hB:hi<=B):Ν lo hi e w' v xs:=zgs h hb hB
theorem Ν.outside {xs:List Mv}(h:Ν lo hi e w v xs)(hb:β lo' hi' w w')(hd:hi<=lo'\/hi'<=lo):Ν lo hi e w' v xs:=zmc h hb hd
theorem SlM.below {xs:List Mv}(h:SlM lo hi w v xs)(hb:Below B w w')(hB:hi<=B):SlM lo hi w' v xs:=zco h hb hB
theorem SlM.outside {xs:List Mv}(h:SlM lo hi w v xs)(hb:β lo' hi' w w')(hd:hi<=lo'\/hi'<=lo):SlM lo hi w' v xs:=zif h hb hd
theorem SlM.wide {xs:List Mv}(h:SlM lo hi w v xs)(h1:lo'<=lo)(h2:hi<=hi'):SlM lo' hi' w v xs:=Sl.wide h h1 h2
theorem SlM.shape {xs:List Mv}(h:SlM lo hi w v xs):∃ a cap,v=.slice a xs cap/\xs.length<=cap/\cap<=maxLen:=ο h
theorem SlM.get {a:Option Addr} {l:List Mv}(h:SlM lo hi w (.slice a n cap) l)(i:Nat)(hi':i<l.length):
  ∃ b off,a=some ⟨b,off,none⟩/\lo<=b/\b<hi/\b<w.heap.size/\w.cell? (p_ b (off+i*3))=some (.int .i64 l[i].which)/\w.cell? (p_ b (off+i*3+1))=some (.bool l[i].back) /\
   w.cell? (p_ b (off+i*3+2))=some (.int .i64 l[i].at_):=by
 obtain⟨a',cap',e,_,_,_,_,hc⟩:=h;injection e with e1 _ _;subst e1;obtain⟨g1,g2,g3⟩:=zuj l i hi';have hl:=zid l;obtain⟨b,off,e,h1,h2,h3,h4⟩:=hc (i*3) (by omega);obtain⟨b',off',e',_,_,_,h5⟩:=hc (i*3+1) (by omega);obtain⟨b'',off'',e'',_,_,_,h6⟩:=hc (i*3+2) (by omega);rw[e]at e' e'';injection e' with e';injection e' with e1 e2;subst e1 e2;injection e'' with e'';injection e'' with e1 e2;subst e1 e2;exact⟨b,off,e,h1,h2,h3,by rw[h4,g1],by rw[dw_,h5,g2],by rw[dw_,h6,g3]⟩
theorem zaf(x:Int)(w:World):γ w (w.alloc (.cells #[.int .i64 x] 3)).heap.size 3 (w.alloc (.cells #[.int .i64 x] 3)) (.slice (q_ w 0) 1 1) [x]:=
 zgc (ς 1 3 w (ints [x]) 1 (by omega) rfl) (by simp)
theorem γ.lower(h:γ lo hi e w v xs)(h1:lo'<=lo)(h2:hi<=hi'):γ lo' hi' e w v xs:=zbh h h1 h2
theorem γ.len(h:Own 1 lo hi e w v n (ints xs))(hn:n=xs.length):γ lo hi e w v xs:=by subst hn;exact h
theorem γ.app {a:Option Addr}(h:Own 1 lo hi e w (.slice a n cap) n (ints xs++ints ys))(hn:n=xs.length+ys.length):γ lo hi e w (.slice a (xs++ys).length cap) (xs++ys):=by
 subst hn;unfold γ;rw[n_,zae];exact h
theorem γ.wide2'(h:γ lo hi e w v xs)(hh:hi<=hi'):γ lo hi' e w v xs:=zgc h hh
theorem γ.wide2(h:γ lo hi e w v xs)(hl:lo'<=lo)(hh:hi<=hi'):γ lo' hi' e w v xs:=zbh h hl hh
theorem zvw(x:Int)(w:World):γ w (w+1) 3 (w.alloc (.cells #[.int .i64 x] 3)) (.slice (q_ w 0) 1 1) [x]:=
 ς 1 3 w (ints [x]) 1 (by omega) rfl
theorem own:ownKnob Tryz.prog.godebug=none:=by kernel_rfl
theorem zl6:laidOutB prog=true:=by kernel_rfl
def zgp(k:IntKind)(w:World)(a:Option Addr)(len cap:Nat)(zs:List Int):Prop:=
 (a=none/\len=0/\cap=0/\zs=[]) \/
 ∃ x,a=some x/\len<=cap/\cap<=maxLen/\zs.length=cap/\(∀ i,i<zs.length->w.cell? (x.add i)=some (.int k (zs.getD i 0)))/\∀ n∈zs,(Lit.int k n).wf=true
theorem zqg {x:Addr}(h:w.cell? x=some v):x.spot=none:=by
 unfold World.cell? at h
 split at h
 ·split at h
  ·cases h
  ·rename_i hn;simpa using hn
 ·cases h
theorem zgp.sl {k:IntKind} {a:Option Addr} {len:Nat}(h:zgp k w a len cap zs):
  (zs.take len).length=len/\Sl 1 0 w w (.slice a len cap) len ((zs.take len).map (Value.int k)):=by
 rcases h with⟨rfl,rfl,rfl,rfl⟩|⟨x,rfl,hl,hm,hz,hc,_⟩
 ·exact⟨rfl,none,0,rfl,le_ _,by simp[maxLen],rfl,λ_=>rfl,λi hi=>by simp at hi⟩
 ·have hl':(zs.take len).length=len:=by simp;omega
  refine⟨hl',some x,cap,rfl,hl,hm,by simpa using hl',(by intro h;cases h),λi hi=>?_⟩;rw[X_,hl']at hi;have h0:=hc 0 (by omega);have hs:=zqg h0;obtain⟨b,off,sp⟩:=x
  have hsp:sp=none:=by
   have:(⟨b,off,sp⟩:Addr).add 0=⟨b,off,sp⟩:=by simp[Addr.add]
   rw[this]at hs;exact hs
  subst hsp;have hi':=hc i (by omega);rw[a5_]at hi';refine⟨b,off,rfl,aw_ _,as_ w _ h0,as_ w _ h0,?_⟩;rw[hi',dz_,bb_,x_ hi,l_ (by omega)];simp[List.getD,l_ (show i<zs.length by omega)]
theorem zgp.ints {a:Option Addr} {len:Nat}(h:zgp .i64 w a len cap zs):∃ xs,SlI 0 w w (.slice a len cap) xs:=by
 obtain⟨h1,h2⟩:=h.sl;refine⟨zs.take len,?_⟩;unfold SlI;rw[h1];exact h2
theorem Q_.kb {o:Obj}(k:Q_ (Blk g o w))(h:Below w.heap.size w w'):Q_ (Blk g o w'):=H_ (k.o.below h k.o.lt)
theorem Q_.tr {m:Nat}(k:Q_ (Below n w w'))(h:Below m w' w2)(e:n<=m):Q_ (Below n w w2):=H_ (k.o.trans (h.mono e))
theorem Q_.ts(k:Q_ (Below w.heap.size w w'))(h:Below w'.heap.size w' w2):Q_ (Below w.heap.size w w2):=H_ (k.o.trans (h.mono k.o.size))
end Go.Proofs.YtfnnhimopokpnaaGreatDoor
