/- Lemmas for this seat; no condition. -/
import Derived.Test.YtfnnhimopokpnaaGreatDoorRows
import Derived.WalkSpells
import Derived.WalkLawsBesides
import Derived.Lib.Hide
import Derived.BigQuiet
import Derived.ProofKit
import Derived.OpenShut
import Derived.ShutString
namespace Go.Proofs.YtfnnhimopokpnaaGreatDoor
open Go.RowKit Proofs.Tryz
set_option maxRecDepth 100000
set_option maxHeartbeats 0
set_option linter.all false
def a_:=@bodyPost_ret
def b_:=@List.mem_singleton
def c_:=@List.getElem?_eq_getElem
def d_:=@Bool.and_eq_true
def i_:=@List.length_append
def j_:=@if_neg
def k_:=@List.getElem_mem
def l_:=@if_pos
def m_:=@decide_eq_true_eq
def n_:=@Below.drew
def q_:=@List.drop_eq_getElem_cons
def s_:=@List.take_succ_eq_append_getElem
def t_:=@List.eq_nil_of_length_eq_zero
def u_:=@List.mem_append
def v_:=@Array.getElem?_eq_some_iff
def x_:=@Nat.le_trans
def y_:=@List.length_cons
def z_:=@List.mem_cons
def A_:=@Nat.lt_succ_self
def C_:=@Nat.lt_of_lt_of_le
def D_:=@Option.bind_eq_some_iff
def E_:=@List.length_map
def F_:=@List.take_length
def G_:=@Nat.zero_add
def I_:=@List.mem_map
def J_:=@List.nil_append
def L_:=@Option.map_eq_some_iff
def M_:=@List.append_assoc
def N_:=@Option.getD_some
def O_:=@List.length_nil
def R_:=@World.block_lt_of_cell?
def S_:=@below_drewN
def T_:=@Option.bind_some
def U_:=@beq_false_of_ne
def V_:=@Array.getElem?_modify
def W_:=@List.take_of_length_le
def X_:=@World.cell?_of_block
def Y_:=@Nat.pow_le_pow_right
def Z_:=@Option.some.injEq
def aa_:=@of_decide_eq_true
def ab_:=@List.mem_cons_self
def ac_:=@List.getElem_append_left
def ad_:=@List.take_append_drop
def ae_:=@List.getElem_of_mem
def af_:=@List.length_drop
def ag_:=@List.length_take
def ah_:=@List.drop_of_length_le
def ai_:=@Nat.zero_le
def aj_:=@Addr.add_lit
def ak_:=@Option.isSome_some
def al_:=@List.cons_append
def am_:=@List.pairwise_cons
def an_:=@List.getElem?_append_right
def ao_:=@List.getElem?_set_ne
def ap_:=@Option.isSome_none
def aq_:=@Lib.cell_of_heap
def ar_:=@List.getElem?_eq_some_iff
def as_:=@List.map_append
def au_:=@of_decide_eq_false
def av_:=@List.ext_getElem
def aw_:=@List.mem_of_mem_take
def ax_:=@Nat.sub_self
def ay_:=@Nat.lt_or_ge
def az_:=@Nat.mod_two_eq_zero_or_one
def a0_:=@ByteArray.mk_append_mk
def a1_:=@List.getElem_cons_zero
def a2_:=@List.getElem_append_right
def a3_:=@List.getElem?_take
def a4_:=@List.getElem_map
def a5_:=@List.not_mem_nil
def a6_:=@Nat.mul_le_mul
def a7_:=@List.reverse_append
def a8_:=@Prod.mk.injEq
def a9_:=@Nat.testBit_eq_decide_div_mod_eq
def ba_:=@List.take_left
def bb_:=@List.pairwise_iff_getElem
def bc_:=@info_parts
def bd_:=@BitVec.ofInt_natCast
def be_:=@List.length_set
def bf_:=@or_false
def bg_:=@List.take_add_one
def bh_:=@Int.toNat_natCast
def bi_:=@List.getElem_take
def bj_:=@List.length_pos_iff
def bk_:=@Nat.mod_eq_of_lt
def bl_:=@decide_eq_true
def bm_:=@Array.getElem?_setIfInBounds
def bn_:=@ByteArray.data_extract
def bo_:=@MapKept.run_getObj_map
def bp_:=@List.drop_eq_nil_of_le
def bq_:=@BitVec.toNat_ofNat
def br_:=@Nat.or_lt_two_pow
def bs_:=@List.mem_cons_of_mem
def bt_:=@World.cell?_setCell_other
def bu_:=@heap_alloc_new
def bv_:=@List.mem_nil_iff
def bw_:=@decide_eq_false_iff_not
def bx_:=@ByteArray.ext
def by_:=@beq_iff_eq
def bz_:=@Bool.eq_iff_iff
def b0_:=@Lib.frozen_of_heap
def b1_:=@Nat.one_lt_two_pow
def b2_:=@World.drewN_drewN
def b3_:=@List.getElem?_map
def b4_:=@List.length_replicate
def b5_:=@List.drop_zero
def b6_:=@Nat.add_zero
def b7_:=@List.map_nil
def b8_:=@List.drop_left
def b9_:=@Nat.le_of_lt
def ca_:=@List.mem_range
def cb_:=@List.reverse_nil
def cc_:=@List.mem_of_getElem?
def cd_:=@List.map_cons
def ce_:=@Bool.or_eq_true
def cf_:=@Nat.two_pow_pos
def cg_:=@Option.some.inj
def ch_:=@World.cell?_setCell_same
def ci_:=@Nat.lt_of_le_of_lt
def cj_:=@Nat.add_sub_cancel
def ck_:=@List.getElem_of_eq
def cl_:=@run_underlying
def cm_:=@Nat.testBit_or
def cn_:=@List.flatMap_cons
def co_:=@List.foldl_append
def cp_:=@List.getElem_drop
def cq_:=@List.reverse_singleton
def cr_:=@Nat.testBit_lt_two_pow
def cs_:=@List.findIdx?_eq_some_iff_getElem
def ct_:=@World.ownsRow.frozenAt
def cu_:=@List.getElem_cons_succ
def cv_:=@WalkArith.wf_i64
def cw_:=@List.all_eq_true
def cx_:=@IntKind.wrap_i64
def cy_:=@List.set_append_right
def cz_:=@run_convert_bytes_arg
def c0_:=@Option.map_some
def c1_:=@List.append_nil
def c3_:=@Nat.pow_lt_pow_right
def c4_:=@World.ownsRow.stored
def c5_:=@Nat.and_le_left
def c6_:=@beq_eq_false_iff_ne
def c7_:=@Nat.testBit_two_pow
def c8_:=@Option.map_map
def c9_:=@List.getElem?_drop
def da_:=@Nat.add_assoc
def db_:=@Bool.true_and
def dc_:=@Array.getElem?_append_left
def dd_:=@List.reverse_cons
def de_:=@Array.toList_push
def df_:=@List.nodup_append
def dg_:=@Option.filter_eq_some_iff
def dh_:=@List.findIdx?_eq_none_iff
def di_:=@wpList_make_full
def dj_:=@Option.isSome_iff_exists
def dk_:=@List.getElem_set
def dl_:=@UInt8.toNat_inj
def dm_:=@Nat.min_eq_left
def dn_:=@decide_eq_false
def do_:=@World.var?_cell
def dp_:=@List.foldl_cons
def dq_:=@Oper.upon_value
def dr_:=@List.cons.injEq
def ds_:=@if_true
def dt_:=@List.take_take
def du_:=@List.map_take
def Q_ (p:Prop):Prop:=p
theorem Q_.o {p:Prop} (h:Q_ p):p:=h
theorem H_ {p:Prop} (h:p):Q_ p:=h
structure P_ (g k:Nat)
def p_ (g k:Nat):P_ g k:=⟨⟩
instance {g k:Nat}:CoeOut (P_ g k) Addr:=⟨fun _=>⟨g,k,none⟩⟩
instance:Coe World Nat:=⟨fun w=>w.heap.size⟩
instance {α:Type}:CoeOut (List α) Nat:=⟨fun l=>l.length⟩
instance:Coe Int Value:=⟨fun x=>.int .i64 x⟩
instance:Coe Nat Value:=⟨fun x=>.int .i64 (x:Int)⟩
instance:Coe Bool Value:=⟨fun x=>.bool x⟩
instance:Coe Unit Value:=⟨fun _=>.slice none 0 0⟩
theorem x2_ (W:World) (g:Nat) (a b:Value):∃ x,x=(W.setCell ⟨g,0,none⟩ a).setCell ⟨g,1,none⟩ b:=⟨_,rfl⟩
theorem x3_ (W:World) (g:Nat) (a b c:Value):∃ x,x=((W.setCell ⟨g,0,none⟩ a).setCell ⟨g,1,none⟩ b).setCell ⟨g,2,none⟩ c:=⟨_,rfl⟩
theorem x4_ (W:World) (g:Nat) (a b c d:Value):∃ x,x=(((W.setCell ⟨g,0,none⟩ a).setCell ⟨g,1,none⟩ b).setCell ⟨g,2,none⟩ c).setCell ⟨g,3,none⟩ d:=⟨_,rfl⟩
theorem x5_ (W:World) (g:Nat) (a b c d e:Value):∃ x,x=((((W.setCell ⟨g,0,none⟩ a).setCell ⟨g,1,none⟩ b).setCell ⟨g,2,none⟩ c).setCell ⟨g,3,none⟩ d).setCell ⟨g,4,none⟩ e:=⟨_,rfl⟩
theorem xa_ (W:World) (a:Array Value) (e:TypeId):∃ x,x=W.alloc (.cells a e):=⟨_,rfl⟩
theorem le_ (n : Nat) : n ≤ n := Nat.le_refl n
theorem B_ (n : Nat) (w : World) : Below n w w := Below.refl n w
theorem ex_ {α : Type} (a : α) : ∃ x, x = a := ⟨a, rfl⟩
variable {sz lo hi B n lo' hi' e cap k t g:Nat} {w w' c w2:World} {v:Value} {xs ys zs:List Int} {s:Int} {cs:Array Value} {f:Nat × Nat}
structure β(lo hi:Nat)(w w':World):Prop where
 os:w'.os=w.os
 tape:w'.tape=w.tape
 output:w'.output=w.output
 size:w<=w'.heap.size
 block:∀ k,k<w.heap.size->(k<lo\/hi<=k)->w'.heap[k]?=w.heap[k]?
def Sl(sz lo hi:Nat)(w:World)(v:Value)(n:Nat)(xs:List Value):Prop:=
 ∃ a cap,v=.slice a n cap/\n<=cap/\cap<=maxLen/\xs.length=n*sz/\(a=none->cap=0) /\
  ∀ i,i<xs.length->∃ b off,a=some ⟨b,off,none⟩/\lo<=b/\b<hi/\b<w.heap.size/\w.cell? (p_ b (off+i))=xs[i]?
def ints(xs:List Int):List Value:=xs.map (Value.int .i64)
def SlI(lo hi:Nat)(w:World)(v:Value)(xs:List Int):Prop:=Sl 1 lo hi w v xs.length (ints xs)
theorem zck(xs:List Int):(ints xs).length=xs.length:=by simp[ints]
theorem zfd(xs:List Int)(i:Nat)(h:i<xs.length):(ints xs)[i]?=some (.int .i64 xs[i]):=by simp[ints,h]
theorem Sl.below {xs:List Value}(h:Sl sz lo hi w v n xs)(hb:Below B w w')(hB:hi<=B):Sl sz lo hi w' v n xs:=by
 obtain⟨a,cap,h1,h2,h3,h4,h5,h6⟩:=h;refine⟨a,cap,h1,h2,h3,h4,h5,λi hi'=>?_⟩;obtain⟨b,off,e,e1,e2,e3,e4⟩:=h6 i hi';exact⟨b,off,e,e1,e2,C_ e3 hb.size,by rw[hb.cell (p:=p_ b _) (C_ e2 hB)];exact e4⟩
def zdg:=@Sl.below
theorem Sl.wide {xs:List Value}(h:Sl sz lo hi w v n xs)(h1:lo'<=lo)(h2:hi<=hi'):Sl sz lo' hi' w v n xs:=by
 obtain⟨a,cap,h1',h2',h3,h4,h5,h6⟩:=h;refine⟨a,cap,h1',h2',h3,h4,h5,λi hi'=>?_⟩;obtain⟨b,off,e,e1,e2,e3,e4⟩:=h6 i hi';exact⟨b,off,e,by omega,by omega,e3,e4⟩
def zgr:=@Sl.wide
theorem Sl.outside {xs:List Value}(h:Sl sz lo hi w v n xs)(hb:β lo' hi' w w')(hd:hi<=lo'\/hi'<=lo):Sl sz lo hi w' v n xs:=by
 obtain⟨a,cap,h1,h2,h3,h4,h5,h6⟩:=h;refine⟨a,cap,h1,h2,h3,h4,h5,λi hi'=>?_⟩;obtain⟨b,off,e,e1,e2,e3,e4⟩:=h6 i hi';refine⟨b,off,e,e1,e2,C_ e3 hb.size,?_⟩;rw[X_ (w:=w) (a:=p_ b (off+i)) (hb.block b e3 (by omega))];exact e4
def zhf:=@Sl.outside
theorem Below.outside {a b:World}(h:Below B a b)(k:β lo hi b c)(hB:B<=lo)(hs:B<=b.heap.size):Below B a c:=
 ⟨k.os.trans h.os,k.tape.trans h.tape,k.output.trans h.output,x_ h.size k.size,λi hi=>(k.block i (by omega) (by omega)).trans (h.block i hi)⟩
def δ:=@Below.outside
def Own(sz lo hi e:Nat)(w:World)(v:Value)(n:Nat)(xs:List Value):Prop:=
 w.ownsRow lo e sz v n xs/\∀ g,v.ownBlock=some g->g<hi
theorem Own.sl {xs:List Value}(h:Own sz lo hi e w v n xs):Sl sz lo hi w v n xs:=by
 obtain⟨⟨hlen,h⟩,hlt⟩:=h;rcases h with⟨rfl,rfl⟩|⟨g,cap,cur,rfl,hb,hg,hnc,hcm,hcs,htake⟩
 ·refine⟨none,0,rfl,le_ _,by simp[maxLen],hlen,λ_=>rfl,λi hi=>?_⟩
  simp[hlen]at hi
 ·refine⟨_,cap,rfl,hnc,hcm,hlen,(by intro h;cases h),λi hi=>?_⟩
  have hgs:=(v_.1 hg).1;refine⟨g,0,rfl,hb,hlt g rfl,hgs,?_⟩;rw[G_,cell_of_row w g i cur e (0,0) hg,<-htake,a3_,l_ (by omega)];simp
def zce:=@Own.sl
theorem Own.below {xs:List Value}(h:Own sz lo hi e w v n xs)(hb:Below B w w')(hB:hi<=B):Own sz lo hi e w' v n xs:=by
 obtain⟨⟨hlen,h⟩,hlt⟩:=h;refine⟨⟨hlen,?_⟩,hlt⟩;rcases h with h|⟨g,cap,cur,rfl,h1,hg,rest⟩
 ·exact .inl h
 ·exact .inr ⟨g,cap,cur,rfl,h1,by rw[hb.block g (C_ (hlt g rfl) hB)];exact hg,rest⟩
def zeu:=@Own.below
theorem Own.outside {xs:List Value}(h:Own sz lo hi e w v n xs)(hb:β lo' hi' w w')(hd:hi<=lo'\/hi'<=lo):Own sz lo hi e w' v n xs:=by
 obtain⟨⟨hlen,h⟩,hlt⟩:=h;refine⟨⟨hlen,?_⟩,hlt⟩;rcases h with h|⟨g,cap,cur,rfl,h1,hg,rest⟩
 ·exact .inl h
 ·have hgs:=(v_.1 hg).1
  have:=hlt g rfl;exact .inr ⟨g,cap,cur,rfl,h1,by rw[hb.block g hgs (by omega)];exact hg,rest⟩
def zji:=@Own.outside
def γ(lo hi e:Nat)(w:World)(v:Value)(xs:List Int):Prop:=Own 1 lo hi e w v xs.length (ints xs)
theorem γ.sl(h:γ lo hi e w v xs):SlI lo hi w v xs:=zce h
theorem γ.below(h:γ lo hi e w v xs)(hb:Below B w w')(hB:hi<=B):γ lo hi e w' v xs:=zeu h hb hB
theorem γ.outside(h:γ lo hi e w v xs)(hb:β lo' hi' w w')(hd:hi<=lo'\/hi'<=lo):γ lo hi e w' v xs:=zji h hb hd
theorem SlI.below(h:SlI lo hi w v xs)(hb:Below B w w')(hB:hi<=B):SlI lo hi w' v xs:=zdg h hb hB
def zhp:=@SlI.below
theorem SlI.outside(h:SlI lo hi w v xs)(hb:β lo' hi' w w')(hd:hi<=lo'\/hi'<=lo):SlI lo hi w' v xs:=zhf h hb hd
theorem SlI.wide(h:SlI lo hi w v xs)(h1:lo'<=lo)(h2:hi<=hi'):SlI lo' hi' w v xs:=zgr h h1 h2
theorem SlI.open(h:SlI lo hi w v xs):
  ∃ a cap,v=.slice a xs cap/\xs.length<=cap/\cap<=maxLen /\
   ∀ i,(h:i<xs.length)->∃ b off,a=some ⟨b,off,none⟩/\lo<=b/\b<hi/\b<w.heap.size/\w.cell? (p_ b (off+i))=some (.int .i64 xs[i]):=by
 obtain⟨a,cap,h1,h2,h3,h4,h5,h6⟩:=h;refine⟨a,cap,h1,h2,h3,λi hi'=>?_⟩;obtain⟨b,off,e,e1,e2,e3,e4⟩:=h6 i (by simpa [ints] using hi');exact⟨b,off,e,e1,e2,e3,by rw[e4,zfd xs i hi']⟩
def zd4(xs:List Value)(z:Value)(k:Nat):List Value:=xs.take k++List.replicate (xs.length-k) z
theorem znf(xs:List Value)(z:Value):zd4 xs z 0=List.replicate xs.length z:=by simp[zd4]
theorem zq7(xs:List Value)(z:Value)(k:Nat)(h:xs.length<=k):zd4 xs z k=xs:=by
 simp[zd4,W_ h,show xs.length-k=0 by omega]
theorem zn2(xs:List Value)(z:Value)(k:Nat)(h:k<xs.length):(zd4 xs z k)[k]?=some z:=by
 have h1:(xs.take k).length=k:=by simp;omega
 rw[zd4,an_ (by omega),h1,ax_,List.getElem?_replicate,l_ (by omega)]
theorem zrk(xs:List Value)(z:Value)(k:Nat)(h:k<xs.length)(u:Value)(hu:xs[k]?=some u):(zd4 xs z k).set k u=zd4 xs z (k+1):=by
 have h1:(xs.take k).length=k:=by simp;omega
 unfold zd4
 rw[cy_ _ _ (by omega),h1,ax_,show xs.length-k=(xs.length-(k+1))+1 by omega,List.replicate_succ,List.set_cons_zero,
  bg_,hu]
 simp
def zcw(k:Int)(n:Nat):List Int:=(List.range n).map (λi=>k+(i:Nat))
theorem zi0(k:Int)(n:Nat):(zcw k n).length=n:=by simp[zcw]
theorem zx5(k:Int)(n i:Nat)(h:i<n):(ints (zcw k n))[i]?=some (.int .i64 (k+i)):=by simp[ints,zcw,h]
def over(ys xs:List Value)(k:Nat):List Value:=ys.take k++xs.drop k
theorem zhu(ys xs:List Value):over ys xs 0=xs:=by simp[over]
theorem zia(ys xs:List Value)(k:Nat)(h:xs.length<=k)(h2:ys.length<=k):over ys xs k=ys:=by
 simp[over,W_ h2,h]
theorem zko(ys xs:List Value)(k:Nat)(h:ys.length=xs.length):(over ys xs k).length=xs.length:=by
 simp[over];omega
theorem zf4(ys xs:List Value)(k:Nat)(h:ys.length=xs.length)(hk:k<xs.length)(u:Value)(hu:ys[k]?=some u):(over ys xs k).set k u=over ys xs (k+1):=by
 have h1:(ys.take k).length=k:=by simp;omega
 unfold over;rw[cy_ _ _ (by omega),h1,ax_,q_ hk,List.set_cons_zero,bg_,hu];simp
theorem zh1(ys xs:List Value)(k:Nat)(h:ys.length=xs.length)(hk:k<xs.length):(over ys xs k)[k]?=xs[k]?:=by
 have h1:(ys.take k).length=k:=by simp;omega
 rw[over,an_ (by omega),h1,ax_,c9_];simp
theorem β.refl(lo hi:Nat)(w:World):β lo hi w w:=⟨rfl,rfl,rfl,le_ _,λ_ _ _=>rfl⟩
theorem β.trans {a b:World}(h:β lo hi a b)(k:β lo hi b c):β lo hi a c:=
 ⟨k.os.trans h.os,k.tape.trans h.tape,k.output.trans h.output,x_ h.size k.size,λi hi h2=>(k.block i (C_ hi h.size) h2).trans (h.block i hi h2)⟩
theorem β.setCell {a:World}(h:β lo hi a w){p:Addr}(h1:lo<=p.block)(h2:p.block<hi)(u:Value):β lo hi a (w.setCell p u):=
 h.trans ⟨rfl,rfl,rfl,by simp[World.setCell],λk _ hk=>Below.heap_setCell _ _ _ _ (by omega)⟩
theorem β.of_below(h:Below B w w')(hB:w.heap.size<=B):β lo hi w w':=
 ⟨h.os,h.tape,h.output,h.size,λk hk _=>h.block k (by omega)⟩
theorem β.wide(h:β lo hi w w')(h1:lo'<=lo)(h2:hi<=hi'):β lo' hi' w w':=
 ⟨h.os,h.tape,h.output,h.size,λk hk hd=>h.block k hk (by omega)⟩
theorem β.fresh {a b:World}(h:β lo hi a b)(k:β lo' hi' b c)(hlo:a.heap.size<=lo'):β lo hi a c:=
 ⟨k.os.trans h.os,k.tape.trans h.tape,k.output.trans h.output,x_ h.size k.size,λi hi h2=>(k.block i (C_ hi h.size) (.inl (by omega))).trans (h.block i hi h2)⟩
theorem β.below {a b:World}(h:β lo hi a b)(k:Below B b c)(hB:a.heap.size<=B):β lo hi a c:=
 ⟨k.os.trans h.os,k.tape.trans h.tape,k.output.trans h.output,x_ h.size k.size,λi hi h2=>(k.block i (by omega)).trans (h.block i hi h2)⟩
theorem Own.open {xs:List Value}(h:Own sz lo hi e w v n xs):
  ∃ a cap,v=.slice a n cap/\n<=cap/\cap<=maxLen/\xs.length=n*sz/\(0<n->∃ g,a=some ⟨g,0,none⟩/\lo<=g/\g<hi):=by
 obtain⟨⟨hlen,h⟩,hlt⟩:=h;rcases h with⟨rfl,rfl⟩|⟨g,cap,cur,rfl,h1,hg,hnc,hcm,_⟩
 ·exact⟨none,0,rfl,le_ _,by simp[maxLen],hlen,by omega⟩
 ·exact⟨_,cap,rfl,hnc,hcm,hlen,λ_=>⟨g,rfl,h1,hlt g rfl⟩⟩
def ι:=@Own.open
theorem SlI.get {a:Option Addr}(h:SlI lo hi w (.slice a n cap) xs)(i:Nat)(hi':i<xs.length):
  ∃ b off,a=some ⟨b,off,none⟩/\lo<=b/\b<hi/\b<w.heap.size/\w.cell? (p_ b (off+i))=some (.int .i64 xs[i]):=by
 obtain⟨a',cap',e,_,_,hc⟩:=h.open;injection e with e1 _ _;subst e1;exact hc i hi'
def zcv:=@SlI.get
def zbl(P:Bool->World->Prop)(e:Ending)(w':World):Prop:=∃ x,e=.returned (.bool x)/\P x w'
def zgj(P:Int->World->Prop)(e:Ending)(w':World):Prop:=∃ x,e=.returned (.int .i64 x)/\P x w'
def η(P:Value->World->Prop)(e:Ending)(w':World):Prop:=∃ x,e=.returned x/\P x w'
theorem zbl.mk {P:Bool->World->Prop} {e:Ending}(x:Bool)(h:e=.returned (.bool x))(hp:P x w'):zbl P e w':=⟨x,h,hp⟩
theorem zgj.mk {P:Int->World->Prop} {e:Ending}(x:Int)(h:e=.returned x)(hp:P x w'):zgj P e w':=⟨x,h,hp⟩
theorem η.mk {P:Value->World->Prop} {e:Ending}(x:Value)(h:e=.returned x)(hp:P x w'):η P e w':=⟨x,h,hp⟩
def zch:Value->Nat | .slice _ n _=>n | _=>0
theorem Sl.shape {xs:List Value}(h:Sl sz lo hi w v n xs):∃ a cap,v=.slice a n cap/\n<=cap/\cap<=maxLen:=by
 obtain⟨a,cap,h1,h2,h3,_⟩:=h;exact⟨a,cap,h1,h2,h3⟩
def τ:=@Sl.shape
theorem Δ:(Tryz.prog.info? 3).map (λi=>(i.zero,i.size,i.bytes))=some (some (.int .i64 0),1,8):=by kernel_rfl
theorem zlu(lo hi:Nat)(v:Value)(xs:List Int)(w:World)(hx:SlI lo hi w v xs)(hm:xs.length<=1048576):
  Calls prog 35 #[v] w λe w'=>
   ∃ v',e=.returned v'/\Below w w w'/\γ w w' 3 w' v' xs:=by
 obtain⟨i0,hi,hz0,hz1,hz2⟩:=bc_ Δ;obtain⟨a,cap,rfl,hcap,hcm,hc⟩:=hx.open;clear hx hcm
 go_enter func35,ntmps35
 go_wp2_with ((at_make;refine di_ _ rfl _ _ 22 rfl w.heap.size 3 i0 (0:Int) 1 underlying22 hi hz0 hz1 .i64 .i64 xs.length xs.length xs.length rfl rfl rfl rfl ?c1 ?c2 ?c3 ?c4))
 case c1=>rw[hz2];omega
 case c2=>simp[maxLen];omega
 case c3=>exact le_ _
 case c4=>
  intro w1 hown hg;have hb1:Below w w w1:=(B_ _ _).grown hg (le_ _) (by simp);rw[toList_madeCells_one]at hown;clear hg hi hz0 hz1 hz2;go_wp2;go_loopw [4] (λi wr=>∃ k,k<=xs.length/\i=.int .i64 k/\wr.ownsRow w 3 1 (.slice (some ⟨w,0,none⟩) xs xs.length) xs.length (zd4 (ints xs) (0:Int) k)/\Below w w wr) (λi _=>xs.length-(intOf i).toNat)
  case atStart=>exact⟨0,by omega,rfl,by rw[znf,zck];exact hown,hb1⟩
  case round=>
   obtain⟨k,hk,rfl,hown,hbk⟩:=hrel;clear hb1;by_cases hlt:k<xs.length
   ·(obtain⟨b,off,rfl,_,_,hbs,hck⟩:=hc k hlt)
    have hck':wr.cell? (p_ b (off+k))=some (.int .i64 xs[k]):=by
     rw[hbk.cell (p:=p_ b (off+k)) hbs];exact hck
    (have hne:b≠w.heap.size:=by omega);(have hw1:=hown.cellAt k (by omega);have hw2:=hown.frozenAt k;have HS:=H_ (hown.stored k (.int .i64 xs[k]));have HBS:=H_ (hbk.setCell (p:=p_ w k) (le_ _) (.int .i64 xs[k])))
    have hw3:∃ x,wr.cell? (p_ w k)=some x:=by
     refine⟨.int .i64 0,?_⟩;rw[hw1];exact zn2 _ _ _ (by rw[zck];exact hlt)
    (obtain⟨x,hw3⟩:=hw3;clear hc hck hw1 hown hbk;go_wp2;go_roundw)
    case rel=>
     exact⟨k+1,by omega,by go_num,by rw[<-zrk _ _ k (by rw[zck];exact hlt) _ (zfd xs k hlt)];exact HS.o.1,HBS.o⟩
    case measure=>simp[intOf];omega
   ·(obtain rfl:k=xs.length:=by omega);go_wp2;go_ret;rw[zq7 _ _ _ (by rw[zck];exact le_ _)]at hown;exact⟨_,rfl,hbk,hown,λg hg=>(hown.lt g hg).2⟩
theorem ξ {a b:Bool}(h:a=b):Ending.returned (.bool a)=.returned (.bool b):=by rw[h]
def inB(n lo hi:Int):Bool:=decide (lo<=n)&&decide (n<=hi)
theorem zau(n lo hi:Int)(w:World):
  Calls prog 101 #[.int .i64 n,.int .i64 lo,.int .i64 hi] w λe w'=>e=.returned (.bool (inB n lo hi))/\w=w':=by
 go_enter func101,ntmps101
 by_cases h1:lo<=n
 ·by_cases h2:n<=hi
  ·go_wp2
   go_ret;exact⟨ξ (by simp[inB,h1,h2]),rfl⟩
  ·go_wp2
   go_ret;exact⟨ξ (by simp[inB];omega),rfl⟩
 ·go_wp2
  go_ret;exact⟨ξ (by simp[inB];omega),rfl⟩
def eqL(xs ys:List Int):Bool:=xs==ys
theorem zjh(h:xs.length≠ys.length):eqL xs ys=false:=by
 unfold eqL;rw[c6_];intro e;exact h (by rw[e])
theorem znt(h1:k<xs.length)(h2:k<ys.length)(h:xs[k]≠ys[k]):eqL xs ys=false:=by
 unfold eqL;rw[c6_];intro e;subst e;exact h rfl
theorem zr2(hl:xs.length=ys.length)(h:∀ j (h1:j<xs.length) (h2:j<ys.length),xs[j]=ys[j]):eqL xs ys=true:=by
 unfold eqL;rw[by_];exact av_ hl h
theorem zy8(lo hi lo' hi':Nat)(v v':Value)(xs ys:List Int)(w:World)(hx:SlI lo hi w v xs)(hy:SlI lo' hi' w v' ys)(hm:xs.length<=1048576):
  Calls prog 38 #[v,v'] w λe w'=>e=.returned (.bool (eqL xs ys))/\∃ m,w'=w.drewN m:=by
 obtain⟨a,cap,rfl,hcap,hcm,hc⟩:=hx.open;obtain⟨a',cap',rfl,hcap',hcm',hc'⟩:=hy.open;clear hx hcm hy hcm' hcap hcap';by_cases hl:xs.length=ys.length
 ·have HL:=H_ hl
  have hl1:((xs.length:Int) !=ys.length)=false:=by simp[hl]
  have hm':ys.length<=1048576:=by omega
  clear hl
  go_enter func38,ntmps38
  go_wp2;go_loopw [5] (λi wr=>∃ k m:Nat,k<=xs.length/\i=.int .i64 k/\(∀ j (h1:j<k) (h2:j<xs.length) (h3:j<ys.length),xs[j]=ys[j])/\wr=w.drewN m) (λi _=>xs.length-(intOf i).toNat)
  case atStart=>exact⟨0,0,by omega,rfl,by intro j h;omega,rfl⟩
  case round=>
   obtain⟨k,m,hk,rfl,hj,rfl⟩:=hrel;have HJ:=H_ hj;clear hj;by_cases hlt:k<xs.length
   ·(have hlt':k<ys.length:=by have:=HL.o;omega);obtain⟨b,off,rfl,_,_,hbs,hck⟩:=hc k hlt;obtain⟨b',off',rfl,_,_,hbs',hck'⟩:=hc' k hlt';clear hc hc';by_cases he:xs[k]=ys[k]
    ·(have HE:=H_ he);(have he1:(xs[k] !=ys[k])=false:=by simp[he]);clear he;go_wp2
     go_quiet (fail)
     go_wp2;go_roundw
     case rel=>
      refine⟨k+1,m+nq,by omega,by go_num,?_,by first | rfl | rw[b2_]⟩;intro j h1 h2 h3;rcases ay_ j k with h|h
      ·exact HJ.o j h h2 h3
      ·(obtain rfl:j=k:=by omega);exact HE.o
     case measure=>simp[intOf];omega
    ·(have HE:=H_ he);(have he1:(xs[k] !=ys[k])=true:=by simp[he]);clear he;go_wp2
     go_quiet (fail)
     go_wp2;go_ret;exact⟨ξ (znt hlt hlt' HE.o).symm,m+nq,by first | rfl | rw[b2_]⟩
   ·go_wp2
    go_ret;exact⟨ξ (zr2 HL.o λj h1 h2=>HJ.o j (by omega) h1 h2).symm,m,rfl⟩
 ·have HL:=H_ hl
  have hl1:((xs.length:Int) !=ys.length)=true:=by simp;omega
  clear hl hc hc'
  go_enter func38,ntmps38
  go_wp2;go_ret;exact⟨ξ (zjh HL.o).symm,0,rfl⟩
theorem zml(lo hi:Nat)(v:Value)(xs:List Int)(k:Int)(w:World)(hx:γ lo hi 3 w v xs)(hm:xs.length<=1048576)(hk0:0<=k)(hk1:k<=1000000000000):
  Calls prog 40 #[v,.int .i64 k] w λe w'=>
   e=.returned (.int .i64 (k+xs.length))/\β lo hi w w'/\γ lo hi 3 w' v (zcw k xs.length):=by
 have hx':=hx;obtain⟨a,cap,rfl,hcap,hcm,hlen,hopen⟩:=ι hx;have hlt':=hx'.2;have hown0:=hx'.1;have HLT:=H_ hlt';clear hx hx' hlen hlt'
 go_enter func40,ntmps40
 go_wp2;go_loopw [1,5] (λc i wr=>∃ j:Nat,j<=xs.length/\i=.int .i64 j/\c=.int .i64 (k+j)/\wr.ownsRow lo 3 1 (.slice a xs cap) xs.length (over (ints (zcw k xs.length)) (ints xs) j)/\β lo hi w wr) (λ_ i _=>xs.length-(intOf i).toNat)
 case atStart=>exact⟨0,by omega,rfl,by simp,by rw[zhu];exact hown0,β.refl _ _ _⟩
 case round=>
  obtain⟨j,hj,rfl,rfl,hown,hout⟩:=hrel;clear hown0;by_cases hlt:j<xs.length
  ·obtain⟨g,rfl,hg1,hg2⟩:=hopen (by omega)
   have hw1:=hown.cellAt j (by omega);have hw2:=hown.frozenAt j;have HS:=H_ (hown.stored j (.int .i64 (k+j))).1;have HO:=H_ (hout.setCell (p:=p_ g j) hg1 hg2 (.int .i64 (k+j)));rw[zh1 _ _ _ (by simp[ints,zcw]) (by simp[ints];omega),zfd _ _ hlt]at hw1;clear hopen hown hout;go_wp2;go_roundw
   case rel=>
    exact⟨j+1,by omega,by go_num,by go_num,by rw[<-zf4 _ _ j (by simp[ints,zcw]) (by simp[ints];omega) _ (zx5 k _ j hlt)];exact HS.o,HO.o⟩
   case measure=>simp[intOf];omega
  ·obtain rfl:j=xs.length:=by omega
   go_wp2;go_ret;rw[zia _ _ _ (by simp[ints]) (by simp[ints,zcw])]at hown;exact⟨rfl,hout,by rw[zi0];exact hown,HLT.o⟩
theorem zlo(lo hi:Nat)(v:Value)(n:Nat)(k:Int)(w:World)(hx:SlI lo hi w v (zcw k n))(hm:n<=1048576)(hk0:0<=k)(hk1:k<=1000000000000):
  Calls prog 43 #[v,.int .i64 k] w λe w'=>
   e=.returned (.int .i64 (k+n))/\w'=w:=by
 obtain⟨a,cap,rfl,hcap,hcm,hc⟩:=hx.open;rw[zi0]at *;clear hx
 go_enter func43,ntmps43
 go_wp2
 go_loop [1,5] (λc i=>∃ j:Nat,j<=n/\i=.int .i64 j/\c=.int .i64 (k+j)) (λ_ i=>n-(intOf i).toNat)
 case atStart=>exact⟨0,by omega,rfl,by simp⟩
 case round=>
  obtain⟨j,hj,rfl,rfl⟩:=hrel;by_cases hlt:j<n
  ·obtain⟨b,off,rfl,_,_,_,hcell⟩:=hc j (by rw[zi0];exact hlt)
   have he:(zcw k n)[j]'(by rw[zi0];exact hlt)=k+j:=by simp[zcw]
   rw[he]at hcell;clear hc he;have ht:((k+j:Int) !=k+j)=false:=by simp
   go_wp2;go_round
   case rel=>exact⟨j+1,by omega,by go_num,by go_num⟩
   case measure=>simp[intOf];omega
  ·obtain rfl:j=n:=by omega
   go_wp2;go_ret;exact⟨rfl,rfl⟩
def Θ(s:Int):Int:=if s=19\/s=20 then 2 else if s=21 then 1 else 0
theorem zl4(s:Int)(h1:¬s=19)(h2:¬s=20)(h3:¬s=21):Θ s=0:=by simp[Θ,h1,h2,h3]
theorem zeo(s:Int):0<=Θ s/\Θ s<=2:=by unfold Θ;split<;>(try split)<;>omega
theorem zca {k:IntKind} {a b:Int}(h:a=b):Ending.returned (.int k a)=.returned (.int k b):=by rw[h]
def zab:List Int->Int->Option Int
 | [],d=>some d
 | s :: r,d=>if s<0\/21<s\/d<Θ s then none else zab r (d+1-Θ s)
def μ(e:List Int):Bool:=decide (1<=e.length)&&decide (e.length<=40)&&(zab e 0==some 1)
theorem zib(xs:List Int)(k:Nat)(d:Int)(h:k<xs.length)(hb:xs[k]<0\/21<xs[k]\/d<Θ xs[k]):zab (xs.drop k) d=none:=by
 rw[q_ h,zab,l_ hb]
theorem zqx(xs:List Int)(k:Nat)(d:Int)(h:k<xs.length)(hb:¬(xs[k]<0\/21<xs[k]\/d<Θ xs[k])):zab (xs.drop k) d=zab (xs.drop (k+1)) (d+1-Θ xs[k]):=by
 rw[q_ h,zab,j_ hb]
theorem zok(xs:List Int)(k:Nat)(d:Int)(h:xs.length<=k):zab (xs.drop k) d=some d:=by
 rw[ah_ h];rfl
theorem zhq(h:zab xs 0=none):μ xs=false:=by simp[μ,h]
theorem zgl(s:Int)(w:World):
  Calls prog 121 #[.int .i64 s] w λe w'=>e=.returned (.int .i64 (Θ s))/\w=w':=by
 by_cases h1:s=19
 ·subst h1
  go_enter func121,ntmps121
  go_wp2;go_ret;exact⟨rfl,rfl⟩
 ·by_cases h2:s=20
  ·subst h2
   go_enter func121,ntmps121
   go_wp2;go_ret;exact⟨rfl,rfl⟩
  ·have b1:(s==19)=false:=by simpa using h1
   have b2:(s==20)=false:=by simpa using h2
   by_cases h3:s=21
   ·subst h3
    go_enter func121,ntmps121
    go_wp2;go_ret;exact⟨rfl,rfl⟩
   ·(have b3:(s==21)=false:=by simpa using h3);(have hr:=H_ (zl4 s h1 h2 h3);clear h1 h2 h3);go_enter func121,ntmps121
    go_wp2;go_ret;exact⟨zca (by rw[hr.o]),rfl⟩
theorem zlk(s:Int)(w:World):
  Calls prog 117 #[.int .i64 s] w λe w'=>e=.returned (.int .i64 (Θ s))/\w=w':=by
 by_cases h1:s=19
 ·subst h1
  go_enter func117,ntmps117
  go_wp2;go_ret;exact⟨rfl,rfl⟩
 ·by_cases h2:s=20
  ·subst h2
   go_enter func117,ntmps117
   go_wp2;go_ret;exact⟨rfl,rfl⟩
  ·have b1:(s==19)=false:=by simpa using h1
   have b2:(s==20)=false:=by simpa using h2
   by_cases h3:s=21
   ·subst h3
    go_enter func117,ntmps117
    go_wp2;go_ret;exact⟨rfl,rfl⟩
   ·(have b3:(s==21)=false:=by simpa using h3);(have hr:=H_ (zl4 s h1 h2 h3);clear h1 h2 h3);go_enter func117,ntmps117
    go_wp2;go_ret;exact⟨zca (by rw[hr.o]),rfl⟩
theorem zdd(lo hi:Nat)(v:Value)(xs:List Int)(w:World)(hx:SlI lo hi w v xs)(hm:xs.length<=1048576):
  Calls prog 69 #[v] w λe w'=>e=.returned (.bool (μ xs))/\w=w':=by
 obtain⟨a,cap,rfl,hcap,hcm,hc⟩:=hx.open;clear hx hcm hcap;by_cases h1:1<=xs.length
 ·by_cases h2:xs.length<=40
  ·go_enter func69,ntmps69
   go_wp2
   go_loop [3,16] (λc i=>∃ (k:Nat) (d:Int),k<=xs.length/\i=.int .i64 k/\c=.int .i64 d/\0<=d/\d<=k/\Q_ (zab (xs.drop k) d=zab xs 0)) (λ_ i=>xs.length-(intOf i).toNat)
   case atStart=>exact⟨0,0,by omega,rfl,rfl,by omega,by omega,H_ rfl⟩
   case round=>
    obtain⟨k,d,hk,rfl,rfl,hd0,hdk,HT⟩:=hrel;by_cases hlt:k<xs.length
    ·(obtain⟨b,off,rfl,_,_,_,hcell⟩:=hc k hlt);clear hc;obtain⟨t0,t1⟩:=zeo xs[k];by_cases hb1:xs[k]<0
     ·(have HN:=H_ (zib xs k d hlt (.inl hb1)));go_wp2;go_ret;exact⟨ξ (zhq (by rw[<-HT.o,HN.o])).symm,rfl⟩
     ·by_cases hb2:21<xs[k]
      ·(have HN:=H_ (zib xs k d hlt (.inr (.inl hb2))));go_wp2;go_ret;exact⟨ξ (zhq (by rw[<-HT.o,HN.o])).symm,rfl⟩
      ·by_cases hb3:d<Θ xs[k]
       ·(have HN:=H_ (zib xs k d hlt (.inr (.inr hb3))));go_wp2_with (go_at_call 121;refine(zgl _ _).mono ?_;rintro e w' ⟨rfl,rfl⟩)
        go_ret;exact⟨ξ (zhq (by rw[<-HT.o,HN.o])).symm,rfl⟩
       ·(have HN:=H_ (zqx xs k d hlt (by omega)));go_wp2_with (go_at_call 121;refine(zgl _ _).mono ?_;rintro e w' ⟨rfl,rfl⟩)
        go_round
        (case rel=>exact⟨k+1,d+1-Θ xs[k],by omega,by go_num,by first | go_num | (congr 1;omega),by omega,by omega,H_ (by rw[<-HT.o,HN.o])⟩);case measure=>simp[intOf];omega
    ·(have HN:=H_ (zok xs k d (by omega)));go_wp2;go_ret;exact⟨ξ (by simp[μ,<-HT.o,HN.o,h1,h2]),rfl⟩
  ·go_enter func69,ntmps69
   go_wp2;go_ret;exact⟨ξ (by simp[μ];omega),rfl⟩
 ·go_enter func69,ntmps69
  go_wp2;go_ret;exact⟨ξ (by simp[μ];omega),rfl⟩
theorem z0q(x:Int):inB x 0 21=true↔¬(x<0\/21<x):=by simp[inB]
theorem zxj(x:Int):inB x 0 21=false↔(x<0\/21<x):=by simp[inB];omega
theorem zby(lo hi:Nat)(v:Value)(xs:List Int)(w:World)(hx:SlI lo hi w v xs)(hm:xs.length<=1048576):
  Calls prog 64 #[v] w λe w'=>e=.returned (.bool (μ xs))/\w=w':=by
 obtain⟨a,cap,rfl,hcap,hcm,hc⟩:=hx.open;clear hx hcm hcap
 go_enter func64,ntmps64
 go_wp2
 go_loop [3,4] (λc i=>∃ (k:Nat) (d:Int),k<=xs.length/\i=.int .i64 k/\c=.int .i64 d/\0<=d/\d<=k/\Q_ (zab (xs.drop k) d=zab xs 0)) (λ_ i=>xs.length-(intOf i).toNat)
 case atStart=>exact⟨0,0,by omega,rfl,rfl,by omega,by omega,H_ rfl⟩
 case round=>
  obtain⟨k,d,hk,rfl,rfl,hd0,hdk,HT⟩:=hrel;by_cases hlt:k<xs.length
  ·obtain⟨b,off,rfl,_,_,_,hcell⟩:=hc k hlt
   clear hc;obtain⟨t0,t1⟩:=zeo xs[k];cases hb1:inB xs[k] 0 21
   ·(have HN:=H_ (zib xs k d hlt (by have:=(zxj xs[k]).1 hb1;omega)));go_wp2_with (go_at_call 101;refine(zau _ _ _ _).mono ?_;rintro e w' ⟨rfl,rfl⟩)
    go_ret;exact⟨ξ (zhq (by rw[<-HT.o,HN.o])).symm,rfl⟩
   ·by_cases hb3:d<Θ xs[k]
    ·(have HN:=H_ (zib xs k d hlt (.inr (.inr hb3))));go_wp2_with (first | (go_at_call 101;refine(zau _ _ _ _).mono ?_;rintro e w' ⟨rfl,rfl⟩) | (go_at_call 117;refine(zlk _ _).mono ?_;rintro e w' ⟨rfl,rfl⟩))
     go_ret;exact⟨ξ (zhq (by rw[<-HT.o,HN.o])).symm,rfl⟩
    ·(have HN:=H_ (zqx xs k d hlt (by have:=(z0q xs[k]).1 hb1;omega)));go_wp2_with (first | (go_at_call 101;refine(zau _ _ _ _).mono ?_;rintro e w' ⟨rfl,rfl⟩) | (go_at_call 117;refine(zlk _ _).mono ?_;rintro e w' ⟨rfl,rfl⟩))
     go_round
     (case rel=>exact⟨k+1,d+1-Θ xs[k],by omega,by go_num,by first | go_num | (congr 1;omega),by omega,by omega,H_ (by rw[<-HT.o,HN.o])⟩);case measure=>simp[intOf];omega
  ·have HN:=H_ (zok xs k d (by omega))
   obtain rfl:k=xs.length:=by omega
   have HK:=H_ (show μ xs=(inB xs.length 1 40&&d==1) by
    simp only[μ,<-HT.o,HN.o,inB];rw[bz_];simp;omega)
   cases hb:inB xs.length 1 40
   ·go_wp2_with (go_at_call 101;refine(zau _ _ _ _).mono ?_;rintro e w' ⟨rfl,rfl⟩)
    go_ret;exact⟨ξ (by rw[HK.o,hb];rfl),rfl⟩
   ·go_wp2_with (go_at_call 101;refine(zau _ _ _ _).mono ?_;rintro e w' ⟨rfl,rfl⟩)
    go_ret;exact⟨ξ (by rw[HK.o,hb];rfl),rfl⟩
inductive KT where
 | leaf (n:Int)
 | star (t:KT)
 | bin (p:Bool) (a b:KT)
def KT.op(p:Bool):Int:=if p then 20 else 19
def KT.post:KT->List Int
 | .leaf n=>[n]
 | .star t=>t.post++[21]
 | .bin p a b=>a.post++b.post++[KT.op p]
def KT.ok(lo:Int):KT->Bool
 | .leaf n=>decide (lo<=n)&&decide (n<=18)
 | .star t=>t.ok lo
 | .bin _ a b=>a.ok lo&&b.ok lo
def KT.size:KT->Nat
 | .leaf _=>1
 | .star t=>t.size+1
 | .bin _ a b=>a.size+b.size+1
theorem KT.post_length:∀ t:KT,t.post.length=t.size
 | .leaf _=>rfl
 | .star t=>by simp[post,size,t.post_length]
 | .bin _ a b=>by simp[post,size,a.post_length,b.post_length];omega
def zar:=@KT.post_length
theorem KT.size_pos(t:KT):1<=t.size:=by cases t<;>simp[KT.size]
theorem zkr(p:Bool):Θ (KT.op p)=2:=by cases p<;>rfl
theorem zll:Θ 21=1:=rfl
theorem zkc {n:Int}(h:n<=18):Θ n=0:=zl4 n (by omega) (by omega) (by omega)
def zb2:List Int->Int->Option Nat
 | [],n=>if n<=0 then some 0 else none
 | s :: r,n=>if n<=0 then some 0 else (zb2 r (n-1+Θ s)).map (·+1)
theorem zjy(r:List Int):zb2 r 0=some 0:=by cases r<;>simp[zb2]
theorem zh4(s:Int)(r:List Int)(n:Int)(h:0<n):zb2 (s :: r) n=(zb2 r (n-1+Θ s)).map (·+1):=by
 rw[zb2,j_ (by omega)]
theorem zhy(lo:Int):∀ (t:KT),t.ok lo=true->∀ (r:List Int) (n:Int),0<n->zb2 (t.post.reverse++r) n=(zb2 r (n-1)).map (·+t.size)
 | .leaf k,hk,r,n,hn=>by
  simp only[KT.ok,d_,m_]at hk;simp only[KT.post,KT.size,cq_,List.singleton_append];rw[zh4 _ _ _ hn,zkc hk.2,Int.add_zero]
 | .star t,hk,r,n,hn=>by
  simp only[KT.ok]at hk;simp only[KT.post,KT.size,a7_,cq_,J_,al_];rw[zh4 _ _ _ hn,zll,zhy lo t hk r _ (by omega),c8_];rw[show n-1+1-1=n-1 by omega];rfl
 | .bin p a b,hk,r,n,hn=>by
  simp only[KT.ok,d_]at hk;simp only[KT.post,KT.size,a7_,cq_,J_,al_,M_];rw[zh4 _ _ _ hn,zkr,zhy lo b hk.2 _ _ (by omega),zhy lo a hk.1 r _ (by omega),c8_,c8_];rw[show n-1+2-1-1=n-1 by omega]
  congr 1
  funext x
  simp only[Function.comp];omega
def zdc:List KT->List Int
 | []=>[]
 | t :: r=>zdc r++t.post
def za4(s:Int)(st:List KT):Option (List KT):=
 if Θ s=2 then match st with
   | b :: a :: r=>some (.bin (s==20) a b :: r)
   | _=>none
  else if Θ s=1 then match st with
   | a :: r=>some (.star a :: r)
   | _=>none
  else some (.leaf s :: st)
def zad:List Int->List KT->Option (List KT)
 | [],st=>some st
 | s :: r,st=>(za4 s st).bind (zad r)
theorem zyy {st st':List KT}(h:za4 s st=some st'):zdc st'=zdc st++[s]:=by
 unfold za4 at h
 split at h
 ·rename_i ht
  split at h
  ·injection h with h
   subst h
   have:s=19\/s=20:=by
    unfold Θ at ht
    split at ht
    ·assumption
    ·split at ht<;>omega
   rcases this with rfl|rfl<;>simp[zdc,KT.post,KT.op]
  ·cases h
 ·split at h
  ·rename_i ht
   split at h
   ·injection h with h
    subst h
    have:s=21:=by
     unfold Θ at ht
     split at ht
     ·omega
     ·split at ht
      ·assumption
      ·omega
    subst this;simp[zdc,KT.post]
   ·cases h
  ·injection h with h
   subst h;simp[zdc,KT.post]
theorem zmb:∀ (e:List Int) (st st':List KT),zad e st=some st'->zdc st'=zdc st++e
 | [],st,st',h=>by simp[zad] at h;simp[h]
 | s :: r,st,st',h=>by
  simp only[zad,D_]at h;obtain⟨s1,h1,h2⟩:=h;rw[zmb r s1 st' h2,zyy h1];simp
def oks(lo:Int)(st:List KT):Prop:=∀ t∈st,t.ok lo=true
theorem zqn {lo:Int} {st st':List KT}(hs:lo<=s)(hs':s<=21)(ho:oks lo st)(h:za4 s st=some st'):oks lo st':=by
 unfold za4 at h
 split at h
 ·split at h
  ·injection h with h
   subst h;intro t ht;simp only[z_]at ht;rcases ht with rfl|ht
   ·simp[KT.ok,ho _ (ab_ ..),ho _ (bs_ _ (ab_ ..))]
   ·exact ho _ (by simp[ht])
  ·cases h
 ·split at h
  ·split at h
   ·injection h with h
    subst h;intro t ht;simp only[z_]at ht;rcases ht with rfl|ht
    ·simp[KT.ok,ho _ (ab_ ..)]
    ·exact ho _ (by simp[ht])
   ·cases h
  ·rename_i h1 h2
   injection h with h;subst h;intro t ht;simp only[z_]at ht;rcases ht with rfl|ht
   ·have hle:s<=18:=by
     unfold Θ at h1 h2;by_cases hh:s=19\/s=20
     ·simp[hh]at h1
     ·by_cases h3:s=21
      ·subst h3;simp at h2
      ·omega
    simp[KT.ok,hs,hle]
   ·exact ho _ ht
theorem zvc {st:List KT}(h:¬(s<0\/21<s\/(st.length:Int)<Θ s)):∃ st',za4 s st=some st'/\(st'.length:Int)=st.length+1-Θ s:=by
 unfold za4;have hb:=zeo s
 split
 ·rename_i ht
  match st,h with
  | [],h=>simp at h;omega
  | [x],h=>simp at h;omega
  | b :: a :: r,h=>exact⟨_,rfl,by simp;omega⟩
 ·split
  ·rename_i ht
   match st,h with
   | [],h=>simp at h;omega
   | a :: r,h=>exact⟨_,rfl,by simp;omega⟩
  ·exact⟨_,rfl,by simp;omega⟩
theorem zkq:∀ (e:List Int) (st:List KT) (d:Int),oks 0 st->zab e st.length=some d->∃ st',zad e st=some st'/\oks 0 st'/\(st'.length:Int)=d
 | [],st,d,ho,h=>⟨st,rfl,ho,by simpa [zab] using h⟩
 | s :: r,st,d,ho,h=>by
  rw[zab]at h
  split at h
  ·cases h
  ·rename_i hb
   obtain⟨st1,h1,h2⟩:=zvc hb;rw[<-h2]at h;obtain⟨st',h3,h4,h5⟩:=zkq r st1 d (zqn (by omega) (by omega) ho h1) h;exact⟨st',by simp[zad,h1,h3],h4,h5⟩
theorem zez {e:List Int}(h:μ e=true):∃ t:KT,t.ok 0=true/\t.post=e/\zad e []=some [t]/\t.size<=40:=by
 simp only[μ,d_,m_,by_]at h;obtain⟨⟨h1,h2⟩,h3⟩:=h;obtain⟨st,h4,h5,h6⟩:=zkq e [] 1 (by intro t ht;cases ht) h3
 match st,h6 with
 | [t],_=>
  have hp:=zmb e [] [t] h4;simp only[zdc,J_]at hp;exact⟨t,h5 t (by simp),hp,h4,by rw[<-t.post_length,hp];exact h2⟩
theorem zgg:∀ (a b:List Int) (st:List KT),zad (a++b) st=(zad a st).bind (zad b)
 | [],b,st=>by simp[zad]
 | s :: r,b,st=>by
  simp only[al_,zad,Option.bind_assoc]
  congr 1
  funext x
  exact zgg r b x
theorem zdx(lo:Int):∀ (t:KT),t.ok lo=true->∀ st,zad t.post st=some (t :: st)
 | .leaf n,h,st=>by
  simp only[KT.ok,d_,m_]at h;simp[KT.post,zad,za4,zkc h.2]
 | .star t,h,st=>by
  simp only[KT.ok]at h;simp only[KT.post];rw[zgg,zdx lo t h];simp[zad,za4,zll]
 | .bin p a b,h,st=>by
  simp only[KT.ok,d_]at h;simp only[KT.post];rw[zgg,zgg,zdx lo a h.1];simp only[T_];rw[zdx lo b h.2];simp only[T_,zad,za4,zkr];cases p<;>simp[KT.op]
theorem zsb {lo:Int} {a b:KT}(ha:a.ok lo=true)(hb:b.ok lo=true)(h:a.post=b.post):a=b:=by
 have h1:=zdx lo a ha [];rw[h,zdx lo b hb]at h1;injection h1 with h1;injection h1 with h1;exact h1.symm
theorem zfz:∀ (a b:List Int) (d:Int),zab (a++b) d=(zab a d).bind (zab b)
 | [],b,d=>by simp[zab]
 | s :: r,b,d=>by
  simp only[al_,zab]
  split
  ·rfl
  ·exact zfz r b _
theorem zgk:∀ (t:KT),t.ok 0=true->∀ d:Int,0<=d->zab t.post d=some (d+1)
 | .leaf n,h,d,hd=>by
  simp only[KT.ok,d_,m_]at h;have:=zkc h.2;simp only[KT.post];rw[zab,j_ (by omega),this];simp[zab]
 | .star t,h,d,hd=>by
  simp only[KT.ok]at h;simp only[KT.post];rw[zfz,zgk t h d hd];have:=zll;simp only[T_];rw[zab,j_ (by omega),this];simp[zab]
 | .bin p a b,h,d,hd=>by
  simp only[KT.ok,d_]at h;simp only[KT.post];rw[zfz,zfz,zgk a h.1 d hd];simp only[T_];rw[zgk b h.2 _ (by omega)];have:=zkr p;simp only[T_];rw[zab,j_ (by cases p<;>simp[KT.op]at *<;>omega),this];simp only[zab]
  congr 1
  omega
theorem znh {t:KT}(h:t.ok 0=true)(hs:t.size<=40):μ t.post=true:=by
 have:=t.size_pos;simp only[μ,d_,m_,by_,t.post_length];exact⟨⟨this,hs⟩,zgk t h 0 (by omega)⟩
theorem zdh(n:Nat)(h:n<4611686018427387904):IntKind.i64.wrap (n:Int)=n:=IntWalk.i64_in _ (by omega)
theorem zq3(a b:Nat)(ha:a<4611686018427387904)(hb:b<4611686018427387904):bits .and .i64 a b=((a &&& b:Nat):Int):=by
 have ha':a%2 ^ 64=a:=bk_ (by omega);have hb':b%2 ^ 64=b:=bk_ (by omega)
 have h:(BitVec.ofInt 64 (a:Int) &&& BitVec.ofInt 64 (b:Int)).toNat=a &&& b:=by
  rw[bd_,bd_,BitVec.toNat_and,bq_,bq_,ha',hb']
 show IntKind.i64.wrap ((BitVec.ofInt 64 (a:Int) &&& BitVec.ofInt 64 (b:Int)).toNat:Int)=_
 rw[h];exact zdh _ (Nat.and_lt_two_pow (n:=62) _ hb)
theorem ziq(a b:Nat)(ha:a<4611686018427387904)(hb:b<4611686018427387904):bits .or .i64 a b=((a ||| b:Nat):Int):=by
 have ha':a%2 ^ 64=a:=bk_ (by omega);have hb':b%2 ^ 64=b:=bk_ (by omega)
 have h:(BitVec.ofInt 64 (a:Int) ||| BitVec.ofInt 64 (b:Int)).toNat=a ||| b:=by
  rw[bd_,bd_,BitVec.toNat_or,bq_,bq_,ha',hb']
 show IntKind.i64.wrap ((BitVec.ofInt 64 (a:Int) ||| BitVec.ofInt 64 (b:Int)).toNat:Int)=_
 rw[h];exact zdh _ (br_ (n:=62) ha hb)
theorem zw4(a b:Nat)(ha:a<4611686018427387904)(hb:b<4611686018427387904):bits .xor .i64 a b=((a ^^^ b:Nat):Int):=by
 have ha':a%2 ^ 64=a:=bk_ (by omega);have hb':b%2 ^ 64=b:=bk_ (by omega)
 have h:(BitVec.ofInt 64 (a:Int) ^^^ BitVec.ofInt 64 (b:Int)).toNat=a ^^^ b:=by
  rw[bd_,bd_,BitVec.toNat_xor,bq_,bq_,ha',hb']
 show IntKind.i64.wrap ((BitVec.ofInt 64 (a:Int) ^^^ BitVec.ofInt 64 (b:Int)).toNat:Int)=_
 rw[h];exact zdh _ (Nat.xor_lt_two_pow (n:=62) ha hb)
def zdl(t:Nat):Nat->List UInt8
 | 0=>[]
 | k+1=>zdl t k++(if (t >>> k)%2=1 then [UInt8.ofNat (48+k)] else [])
def zd9:Nat->Option (List UInt8)
 | 0=>some [48]
 | 15=>some [49]
 | 10=>some [112]
 | 12=>some [113]
 | 5=>some [33,112]
 | 3=>some [33,113]
 | _=>none
def Ρ(t:Nat):List UInt8:=match zd9 t with | some s=>s | none=>91 :: zdl t 4++[93]
def hb(t k:Nat):Bool:=(t >>> k)%2==1
theorem zo6(t:Int)(w:World):Calls prog 118 #[.int .i64 t] w λe w'=>e=.returned (.bool (inB t 0 15))/\w=w':=by
 go_enter func118,ntmps118
 by_cases h1:0<=t
 ·by_cases h2:t<=15
  ·go_wp2
   go_ret;exact⟨ξ (by simp[inB,h1,h2]),rfl⟩
  ·go_wp2
   go_ret;exact⟨ξ (by simp[inB];omega),rfl⟩
 ·go_wp2
  go_ret;exact⟨ξ (by simp[inB];omega),rfl⟩
theorem zfk(t k:Nat)(ht:t<16)(hk:k<4)(w:World):Calls prog 148 #[.int .i64 t,.int .i64 k] w λe w'=>e=.returned (.bool (hb t k))/\w=w':=by
 have⟨h1,h2⟩:(t=0\/t=1\/t=2\/t=3\/t=4\/t=5\/t=6\/t=7\/t=8\/t=9\/t=10\/t=11\/t=12\/t=13\/t=14\/t=15)/\(k=0\/k=1\/k=2\/k=3):=by omega
 clear ht hk;rcases h2 with rfl|rfl|rfl|rfl
 all_goals rcases h1 with rfl | rfl | rfl | rfl | rfl | rfl | rfl | rfl | rfl | rfl | rfl | rfl | rfl | rfl | rfl | rfl
 all_goals (go_enter func148,ntmps148;go_wp2;go_ret;exact⟨rfl,rfl⟩)
theorem zrw(t k:Nat)(ht:t<16)(hk:k<4)(w:World):Calls prog 109 #[.int .i64 t,.int .i64 k] w λe w'=>e=.returned (.int .i64 (if hb t k then 1 else 0))/\w=w':=by
 have⟨h1,h2⟩:(t=0\/t=1\/t=2\/t=3\/t=4\/t=5\/t=6\/t=7\/t=8\/t=9\/t=10\/t=11\/t=12\/t=13\/t=14\/t=15)/\(k=0\/k=1\/k=2\/k=3):=by omega
 clear ht hk;rcases h2 with rfl|rfl|rfl|rfl
 all_goals rcases h1 with rfl | rfl | rfl | rfl | rfl | rfl | rfl | rfl | rfl | rfl | rfl | rfl | rfl | rfl | rfl | rfl
 all_goals (go_enter func109,ntmps109;go_wp2;go_ret;exact⟨rfl,rfl⟩)
theorem zrh(h:hb t k=true):zdl t (k+1)=zdl t k++[UInt8.ofNat (48+k)]:=by
 simp only[hb,by_]at h;simp[zdl,h]
theorem zpx(h:hb t k=false):zdl t (k+1)=zdl t k:=by
 have h':¬(t >>> k)%2=1:=by simpa [hb] using h
 simp[zdl,h']
theorem ze5(l:List UInt8)(c:UInt8)(l':List UInt8)(h:l'=l++[c]):(ByteArray.mk l.toArray)++(ByteArray.mk #[c])=ByteArray.mk l'.toArray:=by
 subst h
 show ByteArray.mk l.toArray++ByteArray.mk [c].toArray=_
 rw[a0_]
def zc4(w:World):Prop:=∃ bm,w.cell? (p_ 0 0)=some (.map (some bm))/\bm<w.heap.size /\
 ∀ w':World,w'.heap[bm]?=w.heap[bm]?->∀ t:Nat,t<16 ->
  (Instr.lookup 109 (.map (some bm)) t true).run prog w'=.ok (match zd9 t with | some s=>.tuple #[.string ⟨s.toArray⟩,.bool true] | none=>.tuple #[.string ⟨#[]⟩,.bool false]) w'
theorem zc4.below(h:zc4 w)(hb:Below w w w'):zc4 w':=by
 obtain⟨bm,h1,h2,h3⟩:=h;refine⟨bm,(hb.cell (R_ w _ h1)).trans h1,C_ h2 hb.size,λw2 h=>h3 w2 (h.trans (hb.block bm h2))⟩
theorem zit(t:Nat)(ht:t<16)(w:World)(hM:zc4 w):
  Calls prog 95 #[.int .i64 t] w λe w'=>e=.returned (.string ⟨(Ρ t).toArray⟩)/\w=w':=by
 obtain⟨bm,c0,_,hlook⟩:=hM;have hl:=hlook w rfl t ht;clear hlook;have hv:inB (t:Int) 0 15=true:=by simp[inB];omega
 cases hn:zd9 t with
 | some s=>
  rw[hn]at hl;have HT:=H_ (show Ρ t=s by simp[Ρ,hn]);clear hn
  go_enter func95,ntmps95
  go_wp2_with (go_at_call 118;refine(zo6 _ _).mono ?_;rintro e w' ⟨rfl,rfl⟩)
  go_ret;exact⟨by rw[HT.o];rfl,rfl⟩
 | none=>
  rw[hn]at hl;have HT:=H_ (show Ρ t=91 :: zdl t 4++[93] by simp[Ρ,hn]);clear hn
  go_enter func95,ntmps95
  go_wp2_with (go_at_call 118;refine(zo6 _ _).mono ?_;rintro e w' ⟨rfl,rfl⟩)
  go_loop [5,18] (λs i=>∃ (k:Nat) (l:List UInt8),k<=4/\i=.int .i64 k/\s=.string ⟨l.toArray⟩/\l.length<=1+k/\Q_ (l=91 :: zdl t k)) (λ_ i=>4-(intOf i).toNat)
  case atStart=>exact⟨0,[91],by omega,rfl,rfl,by simp,H_ rfl⟩
  case round=>
   obtain⟨k,l,hk,rfl,rfl,hlen,HL⟩:=hrel;by_cases hlt:k<4
   ·cases hq:hb t k
    ·(have HN:=H_ (zpx hq));go_wp2_with (go_at_call 148;refine(zfk t k ht hlt _).mono ?_;rintro e w' ⟨rfl,rfl⟩)
     go_round
     (case rel=>exact⟨k+1,l,by omega,by go_num,rfl,by omega,H_ (by rw[HL.o,HN.o])⟩);case measure=>simp[intOf];omega
    ·(have HN:=H_ (zrh hq));(have hk4:k=0\/k=1\/k=2\/k=3:=by omega);rcases hk4 with rfl|rfl|rfl|rfl
     ·(have hu:(Utf8.encode 48).size=1:=rfl);go_wp2_with (go_at_call 148;refine(zfk t 0 ht hlt _).mono ?_;rintro e w' ⟨rfl,rfl⟩)
      go_round
      (case rel=>exact⟨1,l++[48],by omega,by go_num,congrArg Value.string (ze5 _ _ _ rfl),by simp;omega,H_ (by rw[HL.o,HN.o];rfl)⟩);case measure=>simp[intOf]
     ·(have hu:(Utf8.encode 49).size=1:=rfl);go_wp2_with (go_at_call 148;refine(zfk t 1 ht hlt _).mono ?_;rintro e w' ⟨rfl,rfl⟩)
      go_round
      (case rel=>exact⟨2,l++[49],by omega,by go_num,congrArg Value.string (ze5 _ _ _ rfl),by simp;omega,H_ (by rw[HL.o,HN.o];rfl)⟩);case measure=>simp[intOf]
     ·(have hu:(Utf8.encode 50).size=1:=rfl);go_wp2_with (go_at_call 148;refine(zfk t 2 ht hlt _).mono ?_;rintro e w' ⟨rfl,rfl⟩)
      go_round
      (case rel=>exact⟨3,l++[50],by omega,by go_num,congrArg Value.string (ze5 _ _ _ rfl),by simp;omega,H_ (by rw[HL.o,HN.o];rfl)⟩);case measure=>simp[intOf]
     ·(have hu:(Utf8.encode 51).size=1:=rfl);go_wp2_with (go_at_call 148;refine(zfk t 3 ht hlt _).mono ?_;rintro e w' ⟨rfl,rfl⟩)
      go_round
      (case rel=>exact⟨4,l++[51],by omega,by go_num,congrArg Value.string (ze5 _ _ _ rfl),by simp;omega,H_ (by rw[HL.o,HN.o];rfl)⟩);case measure=>simp[intOf]
   ·(obtain rfl:k=4:=by omega);go_wp2;go_ret;exact⟨congrArg (λb=>Ending.returned (Value.string b)) (ze5 _ _ _ (by rw[HT.o,HL.o])),rfl⟩
def zek(l:List UInt8):Option Nat:=(List.range 16).find? λt=>Ρ t==l
def NoT(l:List UInt8)(k:Nat):Prop:=∀ j,j<k->Ρ j≠l
theorem zr0 {l:List UInt8}(hk:k<16)(hn:NoT l k)(h:Ρ k=l):zek l=some k:=by
 unfold zek;rw[List.find?_range_eq_some];refine⟨by simpa using h,by simpa using hk,λj hj=>by simpa using hn j hj⟩
theorem zm2 {l:List UInt8}(hn:NoT l 16):zek l=none:=by
 unfold zek;rw[List.find?_eq_none];intro t ht
 simpa using hn t (by simpa using ht)
def rdT:Option Nat->Value
 | some t=>.tuple #[.int .i64 t,.bool true]
 | none=>.tuple #[.int .i64 (-1),.bool false]
theorem zq0(l:List UInt8)(s:ByteArray)(hs:s=⟨l.toArray⟩)(w:World)(hM:zc4 w):
  Calls prog 217 #[.string s] w λe w'=>e=.returned (rdT (zek l))/\w=w':=by
 subst hs;have HM:=H_ hM;clear hM
 go_enter func217,ntmps217
 go_wp2
 go_loop [5] (λi=>∃ k:Nat,k<=16/\i=.int .i64 k/\Q_ (NoT l k)) (λi=>16-(intOf i).toNat)
 case atStart=>exact⟨0,by omega,rfl,H_ (by intro j hj;omega)⟩
 case round=>
  obtain⟨k,hk,rfl,HN⟩:=hrel;by_cases hlt:k<16
  ·cases hq:(Ρ k==l)
   ·go_wp2_with (go_at_call 95;refine(zit k hlt _ HM.o).mono ?_;rintro e w' ⟨rfl,rfl⟩)
    go_round
    case rel=>
     refine⟨k+1,by omega,by go_num,H_ ?_⟩;intro j hj;rcases ay_ j k with h|h
     ·exact HN.o j h
     ·(obtain rfl:j=k:=by omega);simpa using hq
    case measure=>simp[intOf];omega
   ·(have HR:=H_ (zr0 hlt HN.o (by simpa using hq)));go_wp2_with (go_at_call 95;refine(zit k hlt _ HM.o).mono ?_;rintro e w' ⟨rfl,rfl⟩)
    go_ret2
    exact⟨by rw[HR.o];rfl,rfl⟩
  ·obtain rfl:k=16:=by omega
   have HR:=H_ (zm2 HN.o);go_wp2
   go_ret2
   exact⟨by rw[HR.o];rfl,rfl⟩
abbrev PR:=List UInt8->Option (List Int × List UInt8)
def zea(sum:PR):PR
 | []=>none
 | c :: r=>
  if c.toNat=40 then
   match sum r with
   | some (e,d :: r2)=>if d.toNat=41 then some (e,r2) else none
   | _=>none
  else if c.toNat=33\/c.toNat=91 then none
  else if 97<=c.toNat/\c.toNat<=99 then some ([16+((c.toNat:Int)-97)],r)
  else match zek [c] with
   | some t=>some ([(t:Int)],r)
   | none=>none
def zbj:List Int->List UInt8->List Int × List UInt8
 | e,[]=>(e,[])
 | e,c :: r=>if c.toNat=42 then zbj (e++[21]) r else (e,c :: r)
def zf0(single:PR):PR:=λs=>(single s).map λx=>zbj x.1 x.2
def za5(sign:Nat)(op:Int)(part:PR):Nat->List Int->PR
 | _,e,[]=>some (e,[])
 | 0,e,c :: r=>if c.toNat=sign then none else some (e,c :: r)
 | n+1,e,c :: r=>if c.toNat=sign then (part r).bind λx=>za5 sign op part n (e++x.1++[op]) x.2 else some (e,c :: r)
def zdj(sign:Nat)(op:Int)(part:PR):PR:=λs=>(part s).bind λx=>za5 sign op part x.2.length x.1 x.2
def zeg:Nat->PR
 | 0=>λ_=>none
 | n+1=>zdj 43 20 (zdj 59 19 (zf0 (zea (zeg n))))
def Ends(p:PR):Prop:=∀ s e r,p s=some (e,r)->∃ k,1<=k/\k<=s.length/\r=s.drop k
theorem zbk {row:Option Nat}(hg:w.grownBy w' row)(h:∀ k,row=some k->lo<=k/\k<hi):β lo hi w w':=
 ⟨hg.os,hg.tape,hg.output,hg.size,λk hk hd=>hg.block k hk (λe=>by have:=h k e.symm;omega)⟩
theorem Own.lt {xs:List Value}(h:Own sz lo hi e w v n xs):∀ k,v.ownBlock=some k->lo<=k/\k<hi:=
 λk hk=>⟨(h.1.lt k hk).1,h.2 k hk⟩
theorem Own.of_row {xs:List Value}(h:w.ownsRow lo e sz v n xs):Own sz lo w e w v n xs:=
 ⟨h,λk hk=>(h.lt k hk).2⟩
def zf5:=@Own.of_row
theorem Own.nil(sz lo hi e:Nat)(w:World):Own sz lo hi e w () 0 []:=⟨World.ownsRow_nil _ _ _ _,by simp[Value.ownBlock]⟩
def Ξ:=@Own.nil
theorem Own.drewN {xs:List Value}(h:Own sz lo hi e w v n xs)(m:Nat):Own sz lo hi e (w.drewN m) v n xs:=h
theorem Own.wide {xs:List Value}(h:Own sz lo hi e w v n xs)(hh:hi<=hi'):Own sz lo hi' e w v n xs:=
 ⟨h.1,λk hk=>C_ (h.2 k hk) hh⟩
def zg2:=@Own.wide
theorem Own.wide2 {xs:List Value}(h:Own sz lo hi e w v n xs)(hl:lo'<=lo)(hh:hi<=hi'):Own sz lo' hi' e w v n xs:=by
 obtain⟨⟨h1,h2⟩,h3⟩:=h;refine⟨⟨h1,?_⟩,λk hk=>C_ (h3 k hk) hh⟩;rcases h2 with h2|⟨g,cap,cur,hv,hb,hrest⟩
 ·exact .inl h2
 ·exact .inr ⟨g,cap,cur,hv,x_ hl hb,hrest⟩
def zbh:=@Own.wide2
theorem Own.alloc {xs:List Value}(h:Own sz lo hi e w v n xs)(o:Obj):Own sz lo hi e (w.alloc o) v n xs:=
 ⟨h.1.alloc o,h.2⟩
theorem Own.lit(sz e:Nat)(w:World)(cs:List Value)(n:Nat)(hm:n<=1073741824)(hs:cs.length=n*sz):
  Own sz w (w+1) e (w.alloc (.cells cs.toArray e)) (.slice (some ⟨w,0,none⟩) n n) n cs:=by
 refine⟨World.ownsRow_lit (base:=w.heap.size) (size:=sz) w cs.toArray n (le_ _) (by unfold maxLen;omega) (by simpa using hs),λg hg=>?_⟩;simp[Value.ownBlock]at hg;omega
def π:=@Own.lit
section
variable {P:Program} {w:World} {ops:Array Oper} {rest:List Oper} {o:Oper} {a:Act} {Q:Exit->Act->World->Prop}
theorem Ο(hgd:o.guard=none)(s x:Operand)(t:TypeId)
  (ho:o.op=.call { callee:=.builtin .append,args:=#[s,x],argTypes:=#[t,t] })
  (e:TypeId) (z:Value) (sz bytes:Nat) (ht:P.underlying t=some (.slice e)) (hinfo:(P.info? e).map (λi=>(i.zero,i.size,i.bytes))=some (some z,sz,bytes))
  (hzs:z.cells.size=sz) (hsz:0<sz) (hby:bytes<=64)
  {lo hi lo' hi' n:Nat} {v:Value} {xs:List Value} (hs:a.eval s=v) (hown:Own sz lo hi e w v n xs)
  {vx:Value} {m:Nat} {ys:List Value} (hx:a.eval x=vx) (hsl:Sl sz lo' hi' w vx m ys) (h1:∀ u∈ys,u.oneCell'=true)
  (hn:n+m<=1073741824) (hlo:lo<=w)
  (h:∀ v' w',Own sz lo w'.heap.size e w' v' (n+m) (xs++ys)->w.grownBy w' v.ownBlock->β lo hi w w'->(v'=.slice none 0 0↔v=.slice none 0 0/\m=0)->wpList P ops Q rest (a.put o.dst v') w'):wpList P ops Q (o :: rest) a w:=by
 obtain⟨i,hi0,hz,hsize,hb⟩:=bc_ hinfo;obtain⟨ao,c,rfl,hmc,hcm,hlen,hnone,hc⟩:=hsl;have hmx:(n+m)*bytes<=140737488355328:=x_ (a6_ hn hby) (by decide);cases ao with
 | none=>
  obtain rfl:=hnone rfl;obtain rfl:m=0:=by omega
  obtain rfl:ys=[]:=t_ (by simpa using hlen);refine wpList_plain hgd λK hK=>?_
  have hrun:=run_append_owned_none (P:=P) w lo t o.type e i sz ht hi0 _ n xs hown.1;have hk:=h v w (by simpa using ⟨hown.1,λg hg=>(hown.1.lt g hg).2⟩) (World.grownBy.refl _ _) (β.refl _ _ _) (by simp);unfold Oper.wp;simp[execOp,ho,resolve,invoke,builtin,hs,hx,hrun,Result.andThen];exact hK _ _ hk
 | some ad=>
  refine wpList_append_own w hgd s x t ho lo e i z sz bytes ht hi0 hz hsize hb hzs hsz v n xs hs hown.1 ad m c ys hx hlen ?_ h1 (by unfold maxLen;omega) hmx hlo ?_
  ·intro j u hu
   have hj:=(ar_.1 hu).1;obtain⟨b,off,e1,_,_,_,e2⟩:=hc j hj;injection e1 with e1;subst e1;rw[aj_,e2,hu]
  ·intro v' w' h2 h3 h4
   exact h v' w' (zf5 h2) h3 (zbk h3 hown.lt) h4
theorem zbw(w0:World)(hgd:o.guard=none)(s x:Operand)(t:TypeId)
  (ho:o.op=.call { callee:=.builtin .append,args:=#[s,x],argTypes:=#[t,t] })
  (e:TypeId) (z:Value) (sz bytes:Nat) (ht:P.underlying t=some (.slice e)) (hinfo:(P.info? e).map (λi=>(i.zero,i.size,i.bytes))=some (some z,sz,bytes))
  (hzs:z.cells.size=sz) (hsz:0<sz) (hby:bytes<=64)
  {lo hi n:Nat} {v:Value} {xs:List Value} (hs:a.eval s=v) (hown:Own sz lo hi e w0 v n xs)
  (m:Nat) (ys:List Value) (hx:a.eval x=.slice (some ⟨w0,0,none⟩) m m) (hlen:ys.length=m*sz) (h1:∀ u∈ys,u.oneCell'=true) (hw:w=w0.alloc (.cells ys.toArray e))
  (hn:n+m<=1073741824) (hlo:lo<=w0)
  (h:∀ v' w',Own sz lo w'.heap.size e w' v' (n+m) (xs++ys)->β lo hi w0 w'->(v'=.slice none 0 0↔v=.slice none 0 0/\m=0)->wpList P ops Q rest (a.put o.dst v') w'):wpList P ops Q (o :: rest) a w:=by
 subst hw;have hl:=(π sz e w0 ys m (by omega) hlen).sl;refine Ο hgd s x t ho e z sz bytes ht hinfo hzs hsz hby hs (hown.alloc _) hx hl h1 hn (by simp;omega) ?_;intro v' w' h2 _ h3 h4;have hb:β lo hi w0 (w0.alloc (.cells ys.toArray e)):=β.of_below ((B_ _ _).alloc (le_ _) _) (le_ _);exact h v' w' h2 (hb.trans h3) h4
end
theorem Μ(xs:List Int):∀ u∈ints xs,u.oneCell'=true:=ints_oneCell _ _
theorem zan(xs ys:List Int):ints (xs++ys)=ints xs++ints ys:=by simp[ints]
theorem κ(w:World)(o:Obj):(w.alloc o).heap.size=w.heap.size+1:=by simp
def Blk(g:Nat)(o:Obj)(w:World):Prop:=w.heap[g]?=some o
theorem Blk.new(w:World)(o:Obj):Blk w o (w.alloc o):=bu_ w o
def θ:=@Blk.new
theorem Blk.lt {o:Obj}(h:Blk g o w):g<w:=(v_.1 h).1
theorem Blk.below {o:Obj}(h:Blk g o w)(hb:Below B w w')(hB:g<B):Blk g o w':=(hb.block g hB).trans h
theorem Blk.outside {o:Obj}(h:Blk g o w)(hb:β lo hi w w')(hd:g<lo\/hi<=g):Blk g o w':=(hb.block g h.lt (by omega)).trans h
theorem Blk.cell {e:TypeId}(h:Blk g (.cells cs e f) w)(j:Nat):w.cell? (p_ g j)=cs[j]?:=by
 simp only[World.cell?,show w.heap[g]?=_ from h];rfl
theorem Blk.free {e:TypeId}(h:Blk g (.cells cs e (0,0)) w)(j:Nat):w.frozen? (p_ g j)=false:=by
 simp[World.frozen?,show w.heap[g]?=_ from h]
theorem Blk.c2 {e:TypeId}(h:Blk g (.cells cs e f) w):w.cell? (p_ g 0)=cs[0]?/\w.cell? (p_ g 1)=cs[1]?:=
 ⟨h.cell 0,h.cell 1⟩
theorem Blk.f2 {e:TypeId}(h:Blk g (.cells cs e (0,0)) w):w.frozen? (p_ g 0)=false/\w.frozen? (p_ g 1)=false:=
 ⟨h.free 0,h.free 1⟩
theorem Blk.c3 {e:TypeId}(h:Blk g (.cells cs e f) w):w.cell? (p_ g 0)=cs[0]?/\w.cell? (p_ g 1)=cs[1]?/\w.cell? (p_ g 2)=cs[2]?:=
 ⟨h.cell 0,h.cell 1,h.cell 2⟩
theorem Blk.f3 {e:TypeId}(h:Blk g (.cells cs e (0,0)) w):w.frozen? (p_ g 0)=false/\w.frozen? (p_ g 1)=false/\w.frozen? (p_ g 2)=false:=
 ⟨h.free 0,h.free 1,h.free 2⟩
theorem Blk.c4 {e:TypeId}(h:Blk g (.cells cs e f) w):w.cell? (p_ g 0)=cs[0]?/\w.cell? (p_ g 1)=cs[1]?/\w.cell? (p_ g 2)=cs[2]?/\w.cell? (p_ g 3)=cs[3]?:=
 ⟨h.cell 0,h.cell 1,h.cell 2,h.cell 3⟩
theorem Blk.f4 {e:TypeId}(h:Blk g (.cells cs e (0,0)) w):w.frozen? (p_ g 0)=false/\w.frozen? (p_ g 1)=false/\w.frozen? (p_ g 2)=false/\w.frozen? (p_ g 3)=false:=
 ⟨h.free 0,h.free 1,h.free 2,h.free 3⟩
theorem Blk.c5 {e:TypeId}(h:Blk g (.cells cs e f) w):w.cell? (p_ g 0)=cs[0]?/\w.cell? (p_ g 1)=cs[1]?/\w.cell? (p_ g 2)=cs[2]?/\w.cell? (p_ g 3)=cs[3]?/\w.cell? (p_ g 4)=cs[4]?:=
 ⟨h.cell 0,h.cell 1,h.cell 2,h.cell 3,h.cell 4⟩
theorem Blk.f5 {e:TypeId}(h:Blk g (.cells cs e (0,0)) w):w.frozen? (p_ g 0)=false/\w.frozen? (p_ g 1)=false/\w.frozen? (p_ g 2)=false/\w.frozen? (p_ g 3)=false/\w.frozen? (p_ g 4)=false:=
 ⟨h.free 0,h.free 1,h.free 2,h.free 3,h.free 4⟩
theorem zla(lo hi lo' hi':Nat)(va vb:Value)(xs ys:List Int)(s:Int)(w:World)(hx:SlI lo hi w va xs)(hy:SlI lo' hi' w vb ys)(hh:hi<=w)(hh':hi'<=w)
  (hm:xs.length+ys.length<=4194304) :
  Calls prog 124 #[va,vb,.int .i64 s] w (η λv w'=>Below w w w'/\γ w w' 3 w' v (xs++ys++[s])):=by
 have HX:=H_ hx;have HY:=H_ hy;clear hx hy;have H0:Q_ (Own 1 w (w+1) 3 (w.alloc (.cells (ints []).toArray 3)) (.slice (some ⟨w,0,none⟩) 0 0) 0 (ints [])):=H_ (π 1 3 w (ints []) 0 (by omega) rfl);have hb0:Q_ (Below w w (w.alloc (.cells (ints []).toArray 3))):=H_ ((B_ _ _).alloc (le_ _) _);have hs0:(w.alloc (.cells (ints []).toArray 3)).heap.size=w.heap.size+1:=by simp
 have KX:=H_ (HX.o.below hb0.o hh);have KY:=H_ (HY.o.below hb0.o hh');have⟨w0,hw0⟩:=xa_ w (ints []).toArray 3;rw[<-hw0]at H0 hb0 hs0 KX KY;have HW0:=H_ hw0;clear hw0
 go_enter func124,ntmps124
 go_wp2_with (at_builtin;go_loud (rw[show w.alloc (.cells #[] 3)=w0 from HW0.o.symm];refine Ο rfl _ _ 22 rfl 3 (0:Int) 1 8 underlying22 Δ rfl (by decide) (by decide) rfl H0.o rfl KX.o (Μ _) ?c1 ?c2 ?_))
 case c1=>omega
 case c2=>omega
 intro v1 w1 ho1 _ hout1 _;have hs1:=hout1.size;have O1:=H_ ho1;replace KY:=H_ (KY.o.outside hout1 (.inl hh'));have HB1:=H_ (δ hb0.o hout1 (le_ _) hb0.o.size);clear ho1 hout1 KX H0 hb0 HW0;go_wp2_with (at_builtin;refine Ο rfl _ _ 22 rfl 3 (0:Int) 1 8 underlying22 Δ rfl (by decide) (by decide) rfl O1.o rfl KY.o (Μ _) ?c1 ?c2 ?_)
 case c1=>omega
 case c2=>omega
 intro v2 w2 ho2 _ hout2 _;have hs2:=hout2.size;have O2:=H_ ho2;have HB2:=H_ (δ HB1.o hout2 (le_ _) HB1.o.size);clear ho2 hout2 KY O1 HB1;go_wp2_with (at_builtin;refine zbw w2 rfl _ _ 22 rfl 3 (0:Int) 1 8 underlying22 Δ rfl (by decide) (by decide) rfl O2.o 1 (ints [s]) rfl rfl (Μ _) rfl ?c1 ?c2 ?_)
 case c1=>omega
 case c2=>omega
 intro v3 w3 ho3 hout3 _;have O3:=H_ ho3;have HB3:=H_ (δ HB2.o hout3 (le_ _) HB2.o.size);clear ho3 hout3 O2 HB2;go_wp2;go_ret;refine η.mk _ rfl ⟨HB3.o,?_⟩;have h:=O3.o;have e1:(xs++ys++[s]).length=xs.length+ys.length+1:=by simp;omega
 have e2:ints (xs++ys++[s])=ints []++(ints xs++(ints ys++ints [s])):=by simp[ints]
 unfold γ;rw[e1,e2];exact h
def zae(n:Int):Bool:=decide (16<=n)&&decide (n<=18)
theorem zbt(n:Int)(w:World):
  Calls prog 176 #[.int .i64 n] w λe w'=>e=.returned (.bool (zae n))/\w=w':=by
 go_enter func176,ntmps176
 by_cases h1:16<=n
 ·by_cases h2:n<=18
  ·go_wp2
   go_ret;exact⟨ξ (by simp[zae,h1,h2]),rfl⟩
  ·go_wp2
   go_ret;exact⟨ξ (by simp[zae];omega),rfl⟩
 ·go_wp2
  go_ret;exact⟨ξ (by simp[zae];omega),rfl⟩
def Γ(n:Nat):List UInt8:=if n<10 then [UInt8.ofNat (48+n)] else [UInt8.ofNat (48+n/10),UInt8.ofNat (48+n%10)]
theorem za3 {a b:List UInt8}(h:a=b):Ending.returned (.string ⟨a.toArray⟩)=.returned (.string ⟨b.toArray⟩):=by rw[h]
theorem zgc {P:Program}(src dst e:TypeId)(hs:P.underlying src=some (.slice e))(he:P.underlying e=some (.int .u8))(hd:P.underlying dst=some .string)(w:World)(ns:List Int):
    Sem.run P (convert src dst (.slice (some ⟨w,0,none⟩) ns ns.length)) (w.alloc (.cells (ns.map (Value.int .u8)).toArray e)) =
      .ok (.string ⟨(ns.map λn=>UInt8.ofNat n.toNat).toArray⟩) (w.alloc (.cells (ns.map (Value.int .u8)).toArray e)):=by
  have h:=cz_ (P:=P) (w:=w.alloc (.cells (ns.map (Value.int .u8)).toArray e)) src e hs he w 0 ns.length ns.length ns rfl
    (by intro i hi
        rw[World.cell?,bu_];simp[List.getD,hi]) dst hd
  exact h
structure Mv where
 which:Int
 back:Bool
 at_:Int
deriving DecidableEq
def zap(m:Mv):List Value:=[.int .i64 m.which,.bool m.back,.int .i64 m.at_]
def mvs(l:List Mv):List Value:=l.flatMap zap
theorem zbz(l:List Mv):(mvs l).length=l.length*3:=by
 induction l with
 | nil=>rfl
 | cons m r ih=>simp only[mvs,cn_,i_] at *;rw[ih];simp[zap];omega
theorem zkt(l:List Mv):∀ (i:Nat) (h:i<l.length),(mvs l)[i*3]?=some (.int .i64 l[i].which)/\(mvs l)[i*3+1]?=some (.bool l[i].back)/\(mvs l)[i*3+2]?=some (.int .i64 l[i].at_):=by
 induction l with
 | nil=>intro i h;simp at h
 | cons m r ih=>
  intro i h;cases i with
  | zero=>simp[mvs,zap]
  | succ i=>
   have hi:i<r.length:=by simpa using h
   obtain⟨h1,h2,h3⟩:=ih i hi
   have e:∀ j,(mvs (m :: r))[(i+1)*3+j]?=(mvs r)[i*3+j]?:=by
    intro j;have:(mvs (m :: r))=zap m++mvs r:=by simp[mvs]
    rw[this,an_ (by simp[zap];omega)]
    congr 1
    simp[zap];omega
   refine⟨?_,?_,?_⟩
   ·rw[show (i+1)*3=(i+1)*3+0 by omega,e 0];simpa using h1
   ·rw[e 1];simpa using h2
   ·rw[e 2];simpa using h3
theorem zg0(l:List Mv):∀ u∈mvs l,u.oneCell'=true:=by
 intro u hu;simp only[mvs,List.mem_flatMap]at hu;obtain⟨m,_,hm⟩:=hu;simp[zap]at hm;rcases hm with rfl|rfl|rfl<;>rfl
def SlM(lo hi:Nat)(w:World)(v:Value)(l:List Mv):Prop:=Sl 3 lo hi w v l.length (mvs l)
def Ι(lo hi e:Nat)(w:World)(v:Value)(l:List Mv):Prop:=Own 3 lo hi e w v l.length (mvs l)
theorem Ι.sl {l:List Mv}(h:Ι lo hi e w v l):SlM lo hi w v l:=zce h
theorem Ι.below {xs:List Mv}(h:Ι lo hi e w v xs)(hb:Below B w w')(hB:hi<=B):Ι lo hi e w' v xs:=zeu h hb hB
theorem Ι.outside {xs:List Mv}(h:Ι lo hi e w v xs)(hb:β lo' hi' w w')(hd:hi<=lo'\/hi'<=lo):Ι lo hi e w' v xs:=zji h hb hd
theorem SlM.below {xs:List Mv}(h:SlM lo hi w v xs)(hb:Below B w w')(hB:hi<=B):SlM lo hi w' v xs:=zdg h hb hB
theorem SlM.outside {xs:List Mv}(h:SlM lo hi w v xs)(hb:β lo' hi' w w')(hd:hi<=lo'\/hi'<=lo):SlM lo hi w' v xs:=zhf h hb hd
theorem SlM.wide {xs:List Mv}(h:SlM lo hi w v xs)(h1:lo'<=lo)(h2:hi<=hi'):SlM lo' hi' w v xs:=zgr h h1 h2
theorem SlM.shape {xs:List Mv}(h:SlM lo hi w v xs):∃ a cap,v=.slice a xs cap/\xs.length<=cap/\cap<=maxLen:=τ h
theorem SlM.get {a:Option Addr} {l:List Mv}(h:SlM lo hi w (.slice a n cap) l)(i:Nat)(hi':i<l.length):
  ∃ b off,a=some ⟨b,off,none⟩/\lo<=b/\b<hi/\b<w.heap.size/\w.cell? (p_ b (off+i*3))=some (.int .i64 l[i].which)/\w.cell? (p_ b (off+i*3+1))=some (.bool l[i].back) /\
   w.cell? (p_ b (off+i*3+2))=some (.int .i64 l[i].at_):=by
 obtain⟨a',cap',e,_,_,_,_,hc⟩:=h;injection e with e1 _ _;subst e1;obtain⟨g1,g2,g3⟩:=zkt l i hi';have hl:=zbz l;obtain⟨b,off,e,h1,h2,h3,h4⟩:=hc (i*3) (by omega);obtain⟨b',off',e',_,_,_,h5⟩:=hc (i*3+1) (by omega);obtain⟨b'',off'',e'',_,_,_,h6⟩:=hc (i*3+2) (by omega);rw[e]at e' e'';injection e' with e';injection e' with e1 e2;subst e1 e2;injection e'' with e'';injection e'' with e1 e2;subst e1 e2;exact⟨b,off,e,h1,h2,h3,by rw[h4,g1],by rw[da_,h5,g2],by rw[da_,h6,g3]⟩
theorem zh5(x:Int)(w:World):γ w (w.alloc (.cells #[.int .i64 x] 3)).heap.size 3 (w.alloc (.cells #[.int .i64 x] 3)) (.slice (some ⟨w,0,none⟩) 1 1) [x]:=
 zg2 (π 1 3 w (ints [x]) 1 (by omega) rfl) (by simp)
theorem γ.lower(h:γ lo hi e w v xs)(h1:lo'<=lo)(h2:hi<=hi'):γ lo' hi' e w v xs:=zbh h h1 h2
theorem γ.len(h:Own 1 lo hi e w v n (ints xs))(hn:n=xs.length):γ lo hi e w v xs:=by subst hn;exact h
theorem γ.wide2'(h:γ lo hi e w v xs)(hh:hi<=hi'):γ lo hi' e w v xs:=zg2 h hh
theorem γ.wide2(h:γ lo hi e w v xs)(hl:lo'<=lo)(hh:hi<=hi'):γ lo' hi' e w v xs:=zbh h hl hh
theorem zym(x:Int)(w:World):γ w (w+1) 3 (w.alloc (.cells #[.int .i64 x] 3)) (.slice (some ⟨w,0,none⟩) 1 1) [x]:=
 π 1 3 w (ints [x]) 1 (by omega) rfl
theorem own:ownKnob Tryz.prog.godebug=none:=by kernel_rfl
theorem ziw:laidOutB prog=true:=by kernel_rfl
def zfb(k:IntKind)(w:World)(a:Option Addr)(len cap:Nat)(zs:List Int):Prop:=
 (a=none/\len=0/\cap=0/\zs=[]) \/
 ∃ x,a=some x/\len<=cap/\cap<=maxLen/\zs.length=cap/\(∀ i,i<zs.length->w.cell? (x.add i)=some (.int k (zs.getD i 0)))/\∀ n∈zs,(Lit.int k n).wf=true
theorem zj2 {x:Addr}(h:w.cell? x=some v):x.spot=none:=by
 unfold World.cell? at h
 split at h
 ·split at h
  ·cases h
  ·rename_i hn;simpa using hn
 ·cases h
theorem zfb.sl {k:IntKind} {a:Option Addr} {len:Nat}(h:zfb k w a len cap zs):
  (zs.take len).length=len/\Sl 1 0 w w (.slice a len cap) len ((zs.take len).map (Value.int k)):=by
 rcases h with⟨rfl,rfl,rfl,rfl⟩|⟨x,rfl,hl,hm,hz,hc,_⟩
 ·exact⟨rfl,none,0,rfl,le_ _,by simp[maxLen],rfl,λ_=>rfl,λi hi=>by simp at hi⟩
 ·have hl':(zs.take len).length=len:=by simp;omega
  refine⟨hl',some x,cap,rfl,hl,hm,by simpa using hl',(by intro h;cases h),λi hi=>?_⟩;rw[E_,hl']at hi;have h0:=hc 0 (by omega);have hs:=zj2 h0;obtain⟨b,off,sp⟩:=x
  have hsp:sp=none:=by
   have:(⟨b,off,sp⟩:Addr).add 0=⟨b,off,sp⟩:=by simp[Addr.add]
   rw[this]at hs;exact hs
  subst hsp;have hi':=hc i (by omega);rw[aj_]at hi';refine⟨b,off,rfl,ai_ _,R_ w _ h0,R_ w _ h0,?_⟩;rw[hi',b3_,a3_,l_ hi,c_ (by omega)];simp[List.getD,c_ (show i<zs.length by omega)]
theorem zfb.ints {a:Option Addr} {len:Nat}(h:zfb .i64 w a len cap zs):∃ xs,SlI 0 w w (.slice a len cap) xs:=by
 obtain⟨h1,h2⟩:=h.sl;refine⟨zs.take len,?_⟩;unfold SlI;rw[h1];exact h2
theorem Q_.kb {o:Obj}(k:Q_ (Blk g o w))(h:Below w.heap.size w w'):Q_ (Blk g o w'):=H_ (k.o.below h k.o.lt)
theorem Q_.tr {m:Nat}(k:Q_ (Below n w w'))(h:Below m w' w2)(e:n<=m):Q_ (Below n w w2):=H_ (k.o.trans (h.mono e))
theorem Q_.ts(k:Q_ (Below w.heap.size w w'))(h:Below w'.heap.size w' w2):Q_ (Below w.heap.size w w2):=H_ (k.o.trans (h.mono k.o.size))
end Go.Proofs.YtfnnhimopokpnaaGreatDoor
