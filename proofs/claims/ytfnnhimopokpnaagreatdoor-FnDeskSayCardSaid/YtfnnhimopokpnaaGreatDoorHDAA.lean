/- Lemmas for this seat; no condition. -/
import Derived.Test.YtfnnhimopokpnaaGreatDoorRows
import Derived.WalkSpells
import Derived.WalkLawsBesides
import Derived.Lib.Hide
import Derived.BigQuiet
import Derived.ProofKit
import Derived.OpenShut
import Derived.ShutString
namespace Go.Proofs.YtfnnhimopokpnaaGreatDoor
open Go.RowKit Proofs.Tryz
set_option maxRecDepth 100000
set_option maxHeartbeats 0
set_option linter.all false
def a_:=@And.intro
def d_:=@bodyPost_ret
def j_:=@Bool.and_eq_true
def k_:=@List.mem_singleton
def l_:=@List.getElem?_eq_getElem
def m_:=@if_neg
def n_:=@List.length_append
def t_:=@decide_eq_true_eq
def u_:=@List.getElem_mem
def x_:=@if_pos
def y_:=@List.drop_eq_getElem_cons
def z_:=@Below.drew
def A_:=@List.eq_nil_of_length_eq_zero
def D_:=@Nat.lt_succ_self
def E_:=@List.mem_append
def F_:=@List.take_succ_eq_append_getElem
def G_:=@Nat.le_of_eq
def I_:=@List.length_cons
def J_:=@Nat.le_trans
def L_:=@Array.getElem?_eq_some_iff
def M_:=@Option.bind_eq_some_iff
def N_:=@List.mem_cons
def T_:=@Nat.lt_of_lt_of_le
def U_:=@Nat.zero_add
def V_:=@Array.getElem?_modify
def W_:=@Option.map_eq_some_iff
def X_:=@List.length_map
def Y_:=@List.take_length
def Z_:=@List.append_assoc
def aa_:=@List.mem_map
def ab_:=@Option.bind_some
def ac_:=@Option.getD_some
def ad_:=@List.nil_append
def ae_:=@World.cell?_setCell_other
def af_:=@List.length_drop
def ag_:=@World.cell?_of_block
def ah_:=@Nat.pow_le_pow_right
def ai_:=@below_drewN
def aj_:=@List.cons_append
def al_:=@Lib.cell_of_heap
def am_:=@List.length_take
def an_:=@List.length_nil
def ao_:=@beq_false_of_ne
def ap_:=@World.cell?_setCell_same
def aq_:=@List.getElem_append_left
def ar_:=@Option.some.injEq
def as_:=@World.block_lt_of_cell?
def au_:=@List.mem_cons_self
def av_:=@of_decide_eq_true
def aw_:=@Nat.zero_le
def ax_:=@List.getElem_of_mem
def ay_:=@List.take_of_length_le
def az_:=@List.drop_of_length_le
def a0_:=@Option.isSome_some
def a1_:=@List.take_append_drop
def a2_:=@List.getElem?_append_right
def a3_:=@List.getElem?_eq_some_iff
def a4_:=@List.pairwise_cons
def a5_:=@Addr.add_lit
def a6_:=@List.getElem?_set_ne
def a7_:=@List.mem_of_mem_take
def a8_:=@Option.isSome_none
def a9_:=@List.getElem_append_right
def ba_:=@heap_alloc_new
def bb_:=@List.getElem?_take
def bc_:=@of_decide_eq_false
def bd_:=@List.ext_getElem
def be_:=@Nat.sub_self
def bf_:=@Prod.mk.injEq
def bg_:=@Nat.mod_two_eq_zero_or_one
def bh_:=@List.getElem_cons_zero
def bi_:=@Nat.lt_or_ge
def bj_:=@List.not_mem_nil
def bk_:=@Nat.mul_le_mul
def bl_:=@List.take_left
def bm_:=@List.reverse_append
def bn_:=@ByteArray.mk_append_mk
def bo_:=@ByteArray.data_extract
def bp_:=@List.findIdx?_eq_some_iff_getElem
def bq_:=@List.getElem_map
def br_:=@Nat.testBit_eq_decide_div_mod_eq
def bs_:=@Lib.frozen_of_heap
def bt_:=@List.pairwise_iff_getElem
def bu_:=@beq_iff_eq
def bv_:=@BitVec.ofInt_natCast
def bw_:=@List.length_set
def bx_:=@or_false
def by_:=@List.map_append
def bz_:=@List.take_add_one
def b0_:=@Int.toNat_natCast
def b1_:=@List.getElem_take
def b2_:=@beq_eq_false_iff_ne
def b3_:=@List.length_pos_iff
def b4_:=@Nat.mod_eq_of_lt
def b5_:=@List.all_eq_true
def b6_:=@decide_eq_true
def b7_:=@Array.getElem?_setIfInBounds
def b8_:=@info_parts
def b9_:=@MapKept.run_getObj_map
def ca_:=@List.length_eq_one_iff
def cb_:=@List.drop_eq_nil_of_le
def cc_:=@BitVec.toNat_ofNat
def cd_:=@ByteArray.ext
def ce_:=@Nat.or_lt_two_pow
def cf_:=@List.mem_cons_of_mem
def cg_:=@List.mem_of_getElem?
def ch_:=@List.drop_left
def ci_:=@List.drop_zero
def cj_:=@Nat.add_zero
def cl_:=@List.mem_nil_iff
def cm_:=@Bool.eq_iff_iff
def cn_:=@Option.map_some
def co_:=@Nat.one_lt_two_pow
def cp_:=@Nat.testBit_lt_two_pow
def cq_:=@World.drewN_drewN
def cr_:=@Nat.le_of_lt
def cs_:=@List.length_singleton
def cu_:=@List.reverse_nil
def cv_:=@leaves_cons
def cw_:=@UInt8.toNat_inj
def cx_:=@List.append_nil
def cy_:=@Bool.or_eq_true
def cz_:=@Nat.two_pow_pos
def c0_:=@List.findIdx?_eq_none_iff
def c1_:=@Option.some.inj
def c3_:=@List.map_nil
def c4_:=@Nat.lt_of_le_of_lt
def c5_:=@Nat.add_sub_cancel
def c6_:=@List.getElem_of_eq
def c7_:=@run_underlying
def c8_:=@List.mem_range
def c9_:=@Nat.testBit_or
def da_:=@List.flatMap_cons
def db_:=@List.getElem_drop
def dc_:=@List.reverse_singleton
def dd_:=@World.ownsRow.frozenAt
def de_:=@List.getElem_cons_succ
def df_:=@List.map_cons
def dg_:=@WalkArith.wf_i64
def dh_:=@IntKind.wrap_i64
def di_:=@List.set_append_right
def dj_:=@List.singleton_append
def dk_:=@run_convert_bytes_arg
def dl_:=@List.getElem?_eq_none
def dm_:=@Nat.pow_lt_pow_right
def dn_:=@World.ownsRow.stored
def do_:=@Nat.and_le_left
def dp_:=@Nat.testBit_two_pow
def dq_:=@Option.map_map
def dr_:=@List.drop_drop
def ds_:=@List.take_zero
def dt_:=@cell_of_row
def du_:=@List.getElem?_drop
def dv_:=@Nat.eq_zero_or_pos
def dw_:=@Nat.add_assoc
def dx_:=@Bool.true_and
def dy_:=@Array.getElem?_append_left
def dz_:=@List.getElem?_map
def d0_:=@List.reverse_cons
def d1_:=@Array.toList_push
def d2_:=@List.nodup_append
def d3_:=@List.foldl_append
def d4_:=@Option.filter_eq_some_iff
def d5_:=@List.getElem?_append_left
def d6_:=@if_true
def d7_:=@Option.isSome_iff_exists
def d8_:=@Nat.sub_zero
def d9_:=@List.getElem_set
def ea_:=@decide_eq_false_iff_not
def eb_:=@Nat.min_eq_left
def ec_:=@decide_eq_false
def ed_:=@World.var?_cell
def ee_:=@Oper.upon_value
def ef_:=@UInt8.toNat.inj
def eg_:=@List.take_take
def eh_:=@Nat.mod_lt
def ei_:=@List.map_take
def Q_ (p:Prop):Prop:=p
theorem Q_.o {p:Prop} (h:Q_ p):p:=h
theorem H_ {p:Prop} (h:p):Q_ p:=h
structure P_ (g k:Nat)
def p_ (g k:Nat):P_ g k:=⟨⟩
instance {g k:Nat}:CoeOut (P_ g k) Addr:=⟨fun _=>⟨g,k,none⟩⟩
instance:Coe World Nat:=⟨fun w=>w.heap.size⟩
instance {α:Type}:CoeOut (List α) Nat:=⟨fun l=>l.length⟩
instance:Coe Int Value:=⟨fun x=>.int .i64 x⟩
instance:Coe Nat Value:=⟨fun x=>.int .i64 (x:Int)⟩
instance:Coe Bool Value:=⟨fun x=>.bool x⟩
instance:Coe Unit Value:=⟨fun _=>.slice none 0 0⟩
structure R_ (g k:Nat)
def q_ (g k:Nat):R_ g k:=⟨⟩
instance {g k:Nat}:CoeOut (R_ g k) (Option Addr):=⟨fun _=>some ⟨g,k,none⟩⟩
structure C_ (n:FuncId) (a:Array Value) (w:World) (v:Value)
def c_ (n:FuncId) (a:Array Value) (w:World) (v:Value):C_ n a w v:=⟨⟩
instance {n:FuncId} {a:Array Value} {w:World} {v:Value}:CoeSort (C_ n a w v) Prop:=⟨fun _=>Calls prog n a w fun e w'=>e=.returned v∧Below w.heap.size w w'⟩
theorem x2_ (W:World) (g:Nat) (a b:Value):∃ x,x=(W.setCell ⟨g,0,none⟩ a).setCell ⟨g,1,none⟩ b:=⟨_,rfl⟩
theorem x3_ (W:World) (g:Nat) (a b c:Value):∃ x,x=((W.setCell ⟨g,0,none⟩ a).setCell ⟨g,1,none⟩ b).setCell ⟨g,2,none⟩ c:=⟨_,rfl⟩
theorem x4_ (W:World) (g:Nat) (a b c d:Value):∃ x,x=(((W.setCell ⟨g,0,none⟩ a).setCell ⟨g,1,none⟩ b).setCell ⟨g,2,none⟩ c).setCell ⟨g,3,none⟩ d:=⟨_,rfl⟩
theorem x5_ (W:World) (g:Nat) (a b c d e:Value):∃ x,x=((((W.setCell ⟨g,0,none⟩ a).setCell ⟨g,1,none⟩ b).setCell ⟨g,2,none⟩ c).setCell ⟨g,3,none⟩ d).setCell ⟨g,4,none⟩ e:=⟨_,rfl⟩
theorem xa_ (W:World) (a:Array Value) (e:TypeId):∃ x,x=W.alloc (.cells a e):=⟨_,rfl⟩
theorem le_ (n : Nat) : n ≤ n := Nat.le_refl n
theorem B_ (n : Nat) (w : World) : Below n w w := Below.refl n w
theorem ex_ {α : Type} (a : α) : ∃ x, x = a := ⟨a, rfl⟩
variable {sz lo hi B n lo' hi' e cap k t g:Nat} {w w' c w2:World} {v:Value} {xs ys:List Int} {s:Int} {cs:Array Value} {f:Nat × Nat}
structure β(lo hi:Nat)(w w':World):Prop where
 os:w'.os=w.os
 tape:w'.tape=w.tape
 output:w'.output=w.output
 size:w<=w'.heap.size
 block:∀ k,k<w.heap.size->(k<lo\/hi<=k)->w'.heap[k]?=w.heap[k]?
def Sl(sz lo hi:Nat)(w:World)(v:Value)(n:Nat)(xs:List Value):Prop:=
 ∃ a cap,v=.slice a n cap/\n<=cap/\cap<=maxLen/\xs.length=n*sz/\(a=none->cap=0) /\
  ∀ i,i<xs.length->∃ b off,a=some ⟨b,off,none⟩/\lo<=b/\b<hi/\b<w.heap.size/\w.cell? (p_ b (off+i))=xs[i]?
def δ(xs:List Int):List Value:=xs.map (Value.int .i64)
def SlI(lo hi:Nat)(w:World)(v:Value)(xs:List Int):Prop:=Sl 1 lo hi w v xs.length (δ xs)
theorem zc1(xs:List Int):(δ xs).length=xs.length:=by simp[δ]
theorem zha(xs:List Int)(i:Nat)(h:i<xs.length):(δ xs)[i]?=some (.int .i64 xs[i]):=by simp[δ,h]
theorem Sl.below {xs:List Value}(h:Sl sz lo hi w v n xs)(hb:Below B w w')(hB:hi<=B):Sl sz lo hi w' v n xs:=by
 obtain⟨a,cap,h1,h2,h3,h4,h5,h6⟩:=h;refine⟨a,cap,h1,h2,h3,h4,h5,λi hi'=>?_⟩;obtain⟨b,off,e,e1,e2,e3,e4⟩:=h6 i hi';exact⟨b,off,e,e1,e2,T_ e3 hb.size,by rw[hb.cell (p:=p_ b _) (T_ e2 hB)];exact e4⟩
def zch:=@Sl.below
theorem Sl.wide {xs:List Value}(h:Sl sz lo hi w v n xs)(h1:lo'<=lo)(h2:hi<=hi'):Sl sz lo' hi' w v n xs:=by
 obtain⟨a,cap,h1',h2',h3,h4,h5,h6⟩:=h;refine⟨a,cap,h1',h2',h3,h4,h5,λi hi'=>?_⟩;obtain⟨b,off,e,e1,e2,e3,e4⟩:=h6 i hi';exact⟨b,off,e,by omega,by omega,e3,e4⟩
def zg6:=@Sl.wide
theorem Sl.outside {xs:List Value}(h:Sl sz lo hi w v n xs)(hb:β lo' hi' w w')(hd:hi<=lo'\/hi'<=lo):Sl sz lo hi w' v n xs:=by
 obtain⟨a,cap,h1,h2,h3,h4,h5,h6⟩:=h;refine⟨a,cap,h1,h2,h3,h4,h5,λi hi'=>?_⟩;obtain⟨b,off,e,e1,e2,e3,e4⟩:=h6 i hi';refine⟨b,off,e,e1,e2,T_ e3 hb.size,?_⟩;rw[ag_ (w:=w) (a:=p_ b (off+i)) (hb.block b e3 (by omega))];exact e4
def zhc:=@Sl.outside
theorem Below.outside {a b:World}(h:Below B a b)(k:β lo hi b c)(hB:B<=lo)(hs:B<=b.heap.size):Below B a c:=
 ⟨k.os.trans h.os,k.tape.trans h.tape,k.output.trans h.output,J_ h.size k.size,λi hi=>(k.block i (by omega) (by omega)).trans (h.block i hi)⟩
def ε:=@Below.outside
def Own(sz lo hi e:Nat)(w:World)(v:Value)(n:Nat)(xs:List Value):Prop:=
 w.ownsRow lo e sz v n xs/\∀ g,v.ownBlock=some g->g<hi
theorem Own.sl {xs:List Value}(h:Own sz lo hi e w v n xs):Sl sz lo hi w v n xs:=by
 obtain⟨⟨hlen,h⟩,hlt⟩:=h;rcases h with⟨rfl,rfl⟩|⟨g,cap,cur,rfl,hb,hg,hnc,hcm,hcs,htake⟩
 ·refine⟨none,0,rfl,le_ _,by simp[maxLen],hlen,λ_=>rfl,λi hi=>?_⟩
  simp[hlen]at hi
 ·refine⟨_,cap,rfl,hnc,hcm,hlen,(by intro h;cases h),λi hi=>?_⟩
  have hgs:=(L_.1 hg).1;refine⟨g,0,rfl,hb,hlt g rfl,hgs,?_⟩;rw[U_,dt_ w g i cur e (0,0) hg,<-htake,bb_,x_ (by omega)];simp
def zct:=@Own.sl
theorem Own.below {xs:List Value}(h:Own sz lo hi e w v n xs)(hb:Below B w w')(hB:hi<=B):Own sz lo hi e w' v n xs:=by
 obtain⟨⟨hlen,h⟩,hlt⟩:=h;refine⟨⟨hlen,?_⟩,hlt⟩;rcases h with h|⟨g,cap,cur,rfl,h1,hg,rest⟩
 ·exact .inl h
 ·exact .inr ⟨g,cap,cur,rfl,h1,by rw[hb.block g (T_ (hlt g rfl) hB)];exact hg,rest⟩
def zfw:=@Own.below
theorem Own.outside {xs:List Value}(h:Own sz lo hi e w v n xs)(hb:β lo' hi' w w')(hd:hi<=lo'\/hi'<=lo):Own sz lo hi e w' v n xs:=by
 obtain⟨⟨hlen,h⟩,hlt⟩:=h;refine⟨⟨hlen,?_⟩,hlt⟩;rcases h with h|⟨g,cap,cur,rfl,h1,hg,rest⟩
 ·exact .inl h
 ·have hgs:=(L_.1 hg).1
  have:=hlt g rfl;exact .inr ⟨g,cap,cur,rfl,h1,by rw[hb.block g hgs (by omega)];exact hg,rest⟩
def zk3:=@Own.outside
def γ(lo hi e:Nat)(w:World)(v:Value)(xs:List Int):Prop:=Own 1 lo hi e w v xs.length (δ xs)
theorem γ.sl(h:γ lo hi e w v xs):SlI lo hi w v xs:=zct h
theorem γ.below(h:γ lo hi e w v xs)(hb:Below B w w')(hB:hi<=B):γ lo hi e w' v xs:=zfw h hb hB
theorem γ.outside(h:γ lo hi e w v xs)(hb:β lo' hi' w w')(hd:hi<=lo'\/hi'<=lo):γ lo hi e w' v xs:=zk3 h hb hd
theorem SlI.below(h:SlI lo hi w v xs)(hb:Below B w w')(hB:hi<=B):SlI lo hi w' v xs:=zch h hb hB
def zjb:=@SlI.below
theorem SlI.outside(h:SlI lo hi w v xs)(hb:β lo' hi' w w')(hd:hi<=lo'\/hi'<=lo):SlI lo hi w' v xs:=zhc h hb hd
theorem SlI.wide(h:SlI lo hi w v xs)(h1:lo'<=lo)(h2:hi<=hi'):SlI lo' hi' w v xs:=zg6 h h1 h2
theorem SlI.open(h:SlI lo hi w v xs):
  ∃ a cap,v=.slice a xs cap/\xs.length<=cap/\cap<=maxLen /\
   ∀ i,(h:i<xs.length)->∃ b off,a=some ⟨b,off,none⟩/\lo<=b/\b<hi/\b<w.heap.size/\w.cell? (p_ b (off+i))=some (.int .i64 xs[i]):=by
 obtain⟨a,cap,h1,h2,h3,h4,h5,h6⟩:=h;refine⟨a,cap,h1,h2,h3,λi hi'=>?_⟩;obtain⟨b,off,e,e1,e2,e3,e4⟩:=h6 i (by simpa [δ] using hi');exact⟨b,off,e,e1,e2,e3,by rw[e4,zha xs i hi']⟩
def fill(xs:List Value)(z:Value)(k:Nat):List Value:=xs.take k++List.replicate (xs.length-k) z
def zdi(ys xs:List Value)(k:Nat):List Value:=ys.take k++xs.drop k
theorem zu8(ys xs:List Value):zdi ys xs 0=xs:=by simp[zdi]
theorem zy8(ys xs:List Value)(k:Nat)(h:xs.length<=k)(h2:ys.length<=k):zdi ys xs k=ys:=by
 simp[zdi,ay_ h2,h]
theorem zx6(ys xs:List Value)(k:Nat)(h:ys.length=xs.length):(zdi ys xs k).length=xs.length:=by
 simp[zdi];omega
theorem zsy(ys xs:List Value)(k:Nat)(h:ys.length=xs.length)(hk:k<xs.length)(u:Value)(hu:ys[k]?=some u):(zdi ys xs k).set k u=zdi ys xs (k+1):=by
 have h1:(ys.take k).length=k:=by simp;omega
 unfold zdi;rw[di_ _ _ (by omega),h1,be_,y_ hk,List.set_cons_zero,bz_,hu];simp
theorem zs6(ys xs:List Value)(k:Nat)(h:ys.length=xs.length)(hk:k<xs.length):(zdi ys xs k)[k]?=xs[k]?:=by
 have h1:(ys.take k).length=k:=by simp;omega
 rw[zdi,a2_ (by omega),h1,be_,du_];simp
theorem β.refl(lo hi:Nat)(w:World):β lo hi w w:=⟨rfl,rfl,rfl,le_ _,λ_ _ _=>rfl⟩
theorem β.trans {a b:World}(h:β lo hi a b)(k:β lo hi b c):β lo hi a c:=
 ⟨k.os.trans h.os,k.tape.trans h.tape,k.output.trans h.output,J_ h.size k.size,λi hi h2=>(k.block i (T_ hi h.size) h2).trans (h.block i hi h2)⟩
theorem β.setCell {a:World}(h:β lo hi a w){p:Addr}(h1:lo<=p.block)(h2:p.block<hi)(u:Value):β lo hi a (w.setCell p u):=
 h.trans ⟨rfl,rfl,rfl,by simp[World.setCell],λk _ hk=>Below.heap_setCell _ _ _ _ (by omega)⟩
theorem β.of_below(h:Below B w w')(hB:w.heap.size<=B):β lo hi w w':=
 ⟨h.os,h.tape,h.output,h.size,λk hk _=>h.block k (by omega)⟩
theorem β.wide(h:β lo hi w w')(h1:lo'<=lo)(h2:hi<=hi'):β lo' hi' w w':=
 ⟨h.os,h.tape,h.output,h.size,λk hk hd=>h.block k hk (by omega)⟩
theorem β.fresh {a b:World}(h:β lo hi a b)(k:β lo' hi' b c)(hlo:a.heap.size<=lo'):β lo hi a c:=
 ⟨k.os.trans h.os,k.tape.trans h.tape,k.output.trans h.output,J_ h.size k.size,λi hi h2=>(k.block i (T_ hi h.size) (.inl (by omega))).trans (h.block i hi h2)⟩
theorem β.below {a b:World}(h:β lo hi a b)(k:Below B b c)(hB:a.heap.size<=B):β lo hi a c:=
 ⟨k.os.trans h.os,k.tape.trans h.tape,k.output.trans h.output,J_ h.size k.size,λi hi h2=>(k.block i (by omega)).trans (h.block i hi h2)⟩
theorem Own.open {xs:List Value}(h:Own sz lo hi e w v n xs):
  ∃ a cap,v=.slice a n cap/\n<=cap/\cap<=maxLen/\xs.length=n*sz/\(0<n->∃ g,a=some ⟨g,0,none⟩/\lo<=g/\g<hi):=by
 obtain⟨⟨hlen,h⟩,hlt⟩:=h;rcases h with⟨rfl,rfl⟩|⟨g,cap,cur,rfl,h1,hg,hnc,hcm,_⟩
 ·exact⟨none,0,rfl,le_ _,by simp[maxLen],hlen,by omega⟩
 ·exact⟨_,cap,rfl,hnc,hcm,hlen,λ_=>⟨g,rfl,h1,hlt g rfl⟩⟩
def θ:=@Own.open
theorem SlI.get {a:Option Addr}(h:SlI lo hi w (.slice a n cap) xs)(i:Nat)(hi':i<xs.length):
  ∃ b off,a=some ⟨b,off,none⟩/\lo<=b/\b<hi/\b<w.heap.size/\w.cell? (p_ b (off+i))=some (.int .i64 xs[i]):=by
 obtain⟨a',cap',e,_,_,hc⟩:=h.open;injection e with e1 _ _;subst e1;exact hc i hi'
def zc8:=@SlI.get
def za4(P:Bool->World->Prop)(e:Ending)(w':World):Prop:=∃ x,e=.returned (.bool x)/\P x w'
def zc7(P:Int->World->Prop)(e:Ending)(w':World):Prop:=∃ x,e=.returned (.int .i64 x)/\P x w'
def ι(P:Value->World->Prop)(e:Ending)(w':World):Prop:=∃ x,e=.returned x/\P x w'
theorem za4.mk {P:Bool->World->Prop} {e:Ending}(x:Bool)(h:e=.returned (.bool x))(hp:P x w'):za4 P e w':=⟨x,h,hp⟩
theorem zc7.mk {P:Int->World->Prop} {e:Ending}(x:Int)(h:e=.returned x)(hp:P x w'):zc7 P e w':=⟨x,h,hp⟩
theorem ι.mk {P:Value->World->Prop} {e:Ending}(x:Value)(h:e=.returned x)(hp:P x w'):ι P e w':=⟨x,h,hp⟩
def zb7:Value->Nat | .slice _ n _=>n | _=>0
theorem Sl.shape {xs:List Value}(h:Sl sz lo hi w v n xs):∃ a cap,v=.slice a n cap/\n<=cap/\cap<=maxLen:=by
 obtain⟨a,cap,h1,h2,h3,_⟩:=h;exact⟨a,cap,h1,h2,h3⟩
def π:=@Sl.shape
theorem ω:(Tryz.prog.info? 3).map (λi=>(i.zero,i.size,i.bytes))=some (some (.int .i64 0),1,8):=by kernel_rfl
theorem χ {a b:Bool}(h:a=b):Ending.returned (.bool a)=.returned (.bool b):=by rw[h]
def inB(n lo hi:Int):Bool:=decide (lo<=n)&&decide (n<=hi)
theorem za0(n lo hi:Int)(w:World):
  Calls prog 101 #[.int .i64 n,.int .i64 lo,.int .i64 hi] w λe w'=>e=.returned (.bool (inB n lo hi))/\w=w':=by
 go_enter func101,ntmps101
 by_cases h1:lo<=n
 ·by_cases h2:n<=hi
  ·go_wp2
   go_ret;exact⟨χ (by simp[inB,h1,h2]),rfl⟩
  ·go_wp2
   go_ret;exact⟨χ (by simp[inB];omega),rfl⟩
 ·go_wp2
  go_ret;exact⟨χ (by simp[inB];omega),rfl⟩
def eqL(xs ys:List Int):Bool:=xs==ys
theorem zk1(h:xs.length≠ys.length):eqL xs ys=false:=by
 unfold eqL;rw[b2_];intro e;exact h (by rw[e])
theorem zrb(h1:k<xs.length)(h2:k<ys.length)(h:xs[k]≠ys[k]):eqL xs ys=false:=by
 unfold eqL;rw[b2_];intro e;subst e;exact h rfl
theorem zsf(hl:xs.length=ys.length)(h:∀ j (h1:j<xs.length) (h2:j<ys.length),xs[j]=ys[j]):eqL xs ys=true:=by
 unfold eqL;rw[bu_];exact bd_ hl h
def Ο(s:Int):Int:=if s=19\/s=20 then 2 else if s=21 then 1 else 0
theorem zmm(s:Int)(h1:¬s=19)(h2:¬s=20)(h3:¬s=21):Ο s=0:=by simp[Ο,h1,h2,h3]
theorem zev(s:Int):0<=Ο s/\Ο s<=2:=by unfold Ο;split<;>(try split)<;>omega
theorem zdh {k:IntKind} {a b:Int}(h:a=b):Ending.returned (.int k a)=.returned (.int k b):=by rw[h]
def zam:List Int->Int->Option Int
 | [],d=>some d
 | s :: r,d=>if s<0\/21<s\/d<Ο s then none else zam r (d+1-Ο s)
def ν(e:List Int):Bool:=decide (1<=e.length)&&decide (e.length<=40)&&(zam e 0==some 1)
theorem zif(xs:List Int)(k:Nat)(d:Int)(h:k<xs.length)(hb:xs[k]<0\/21<xs[k]\/d<Ο xs[k]):zam (xs.drop k) d=none:=by
 rw[y_ h,zam,x_ hb]
theorem zpl(xs:List Int)(k:Nat)(d:Int)(h:k<xs.length)(hb:¬(xs[k]<0\/21<xs[k]\/d<Ο xs[k])):zam (xs.drop k) d=zam (xs.drop (k+1)) (d+1-Ο xs[k]):=by
 rw[y_ h,zam,m_ hb]
theorem zp1(xs:List Int)(k:Nat)(d:Int)(h:xs.length<=k):zam (xs.drop k) d=some d:=by
 rw[az_ h];rfl
theorem zi7(h:zam xs 0=none):ν xs=false:=by simp[ν,h]
theorem zhn(s:Int)(w:World):
  Calls prog 121 #[.int .i64 s] w λe w'=>e=.returned (.int .i64 (Ο s))/\w=w':=by
 by_cases h1:s=19
 ·subst h1
  go_enter func121,ntmps121
  go_wp2;go_ret;exact⟨rfl,rfl⟩
 ·by_cases h2:s=20
  ·subst h2
   go_enter func121,ntmps121
   go_wp2;go_ret;exact⟨rfl,rfl⟩
  ·have b1:(s==19)=false:=by simpa using h1
   have b2:(s==20)=false:=by simpa using h2
   by_cases h3:s=21
   ·subst h3
    go_enter func121,ntmps121
    go_wp2;go_ret;exact⟨rfl,rfl⟩
   ·(have b3:(s==21)=false:=by simpa using h3);(have hr:=H_ (zmm s h1 h2 h3);clear h1 h2 h3);go_enter func121,ntmps121
    go_wp2;go_ret;exact⟨zdh (by rw[hr.o]),rfl⟩
theorem zlm(s:Int)(w:World):
  Calls prog 117 #[.int .i64 s] w λe w'=>e=.returned (.int .i64 (Ο s))/\w=w':=by
 by_cases h1:s=19
 ·subst h1
  go_enter func117,ntmps117
  go_wp2;go_ret;exact⟨rfl,rfl⟩
 ·by_cases h2:s=20
  ·subst h2
   go_enter func117,ntmps117
   go_wp2;go_ret;exact⟨rfl,rfl⟩
  ·have b1:(s==19)=false:=by simpa using h1
   have b2:(s==20)=false:=by simpa using h2
   by_cases h3:s=21
   ·subst h3
    go_enter func117,ntmps117
    go_wp2;go_ret;exact⟨rfl,rfl⟩
   ·(have b3:(s==21)=false:=by simpa using h3);(have hr:=H_ (zmm s h1 h2 h3);clear h1 h2 h3);go_enter func117,ntmps117
    go_wp2;go_ret;exact⟨zdh (by rw[hr.o]),rfl⟩
theorem zc3(lo hi:Nat)(v:Value)(xs:List Int)(w:World)(hx:SlI lo hi w v xs)(hm:xs.length<=1048576):
  Calls prog 69 #[v] w λe w'=>e=.returned (.bool (ν xs))/\w=w':=by
 obtain⟨a,cap,rfl,hcap,hcm,hc⟩:=hx.open;clear hx hcm hcap;by_cases h1:1<=xs.length
 ·by_cases h2:xs.length<=40
  ·go_enter func69,ntmps69
   go_wp2
   go_loop [3,16] (λc i=>∃ (k:Nat) (d:Int),k<=xs.length/\i=.int .i64 k/\c=.int .i64 d/\0<=d/\d<=k/\Q_ (zam (xs.drop k) d=zam xs 0)) (λ_ i=>xs.length-(intOf i).toNat)
   case atStart=>exact⟨0,0,by omega,rfl,rfl,by omega,by omega,H_ rfl⟩
   case round=>
    obtain⟨k,d,hk,rfl,rfl,hd0,hdk,HT⟩:=hrel;by_cases hlt:k<xs.length
    ·(obtain⟨b,off,rfl,_,_,_,hcell⟩:=hc k hlt);clear hc;obtain⟨t0,t1⟩:=zev xs[k];by_cases hb1:xs[k]<0
     ·(have HN:=H_ (zif xs k d hlt (.inl hb1)));go_wp2;go_ret;exact⟨χ (zi7 (by rw[<-HT.o,HN.o])).symm,rfl⟩
     ·by_cases hb2:21<xs[k]
      ·(have HN:=H_ (zif xs k d hlt (.inr (.inl hb2))));go_wp2;go_ret;exact⟨χ (zi7 (by rw[<-HT.o,HN.o])).symm,rfl⟩
      ·by_cases hb3:d<Ο xs[k]
       ·(have HN:=H_ (zif xs k d hlt (.inr (.inr hb3))));go_wp2_with (go_at_call 121;refine(zhn _ _).mono ?_;rintro e w' ⟨rfl,rfl⟩)
        go_ret;exact⟨χ (zi7 (by rw[<-HT.o,HN.o])).symm,rfl⟩
       ·(have HN:=H_ (zpl xs k d hlt (by omega)));go_wp2_with (go_at_call 121;refine(zhn _ _).mono ?_;rintro e w' ⟨rfl,rfl⟩)
        go_round
        (case rel=>exact⟨k+1,d+1-Ο xs[k],by omega,by go_num,by first | go_num | (congr 1;omega),by omega,by omega,H_ (by rw[<-HT.o,HN.o])⟩);case measure=>simp[intOf];omega
    ·(have HN:=H_ (zp1 xs k d (by omega)));go_wp2;go_ret;exact⟨χ (by simp[ν,<-HT.o,HN.o,h1,h2]),rfl⟩
  ·go_enter func69,ntmps69
   go_wp2;go_ret;exact⟨χ (by simp[ν];omega),rfl⟩
 ·go_enter func69,ntmps69
  go_wp2;go_ret;exact⟨χ (by simp[ν];omega),rfl⟩
theorem zyl(x:Int):inB x 0 21=true↔¬(x<0\/21<x):=by simp[inB]
theorem z1m(x:Int):inB x 0 21=false↔(x<0\/21<x):=by simp[inB];omega
theorem zag(lo hi:Nat)(v:Value)(xs:List Int)(w:World)(hx:SlI lo hi w v xs)(hm:xs.length<=1048576):
  Calls prog 64 #[v] w λe w'=>e=.returned (.bool (ν xs))/\w=w':=by
 obtain⟨a,cap,rfl,hcap,hcm,hc⟩:=hx.open;clear hx hcm hcap
 go_enter func64,ntmps64
 go_wp2
 go_loop [3,4] (λc i=>∃ (k:Nat) (d:Int),k<=xs.length/\i=.int .i64 k/\c=.int .i64 d/\0<=d/\d<=k/\Q_ (zam (xs.drop k) d=zam xs 0)) (λ_ i=>xs.length-(intOf i).toNat)
 case atStart=>exact⟨0,0,by omega,rfl,rfl,by omega,by omega,H_ rfl⟩
 case round=>
  obtain⟨k,d,hk,rfl,rfl,hd0,hdk,HT⟩:=hrel;by_cases hlt:k<xs.length
  ·obtain⟨b,off,rfl,_,_,_,hcell⟩:=hc k hlt
   clear hc;obtain⟨t0,t1⟩:=zev xs[k];cases hb1:inB xs[k] 0 21
   ·(have HN:=H_ (zif xs k d hlt (by have:=(z1m xs[k]).1 hb1;omega)));go_wp2_with (go_at_call 101;refine(za0 _ _ _ _).mono ?_;rintro e w' ⟨rfl,rfl⟩)
    go_ret;exact⟨χ (zi7 (by rw[<-HT.o,HN.o])).symm,rfl⟩
   ·by_cases hb3:d<Ο xs[k]
    ·(have HN:=H_ (zif xs k d hlt (.inr (.inr hb3))));go_wp2_with (first | (go_at_call 101;refine(za0 _ _ _ _).mono ?_;rintro e w' ⟨rfl,rfl⟩) | (go_at_call 117;refine(zlm _ _).mono ?_;rintro e w' ⟨rfl,rfl⟩))
     go_ret;exact⟨χ (zi7 (by rw[<-HT.o,HN.o])).symm,rfl⟩
    ·(have HN:=H_ (zpl xs k d hlt (by have:=(zyl xs[k]).1 hb1;omega)));go_wp2_with (first | (go_at_call 101;refine(za0 _ _ _ _).mono ?_;rintro e w' ⟨rfl,rfl⟩) | (go_at_call 117;refine(zlm _ _).mono ?_;rintro e w' ⟨rfl,rfl⟩))
     go_round
     (case rel=>exact⟨k+1,d+1-Ο xs[k],by omega,by go_num,by first | go_num | (congr 1;omega),by omega,by omega,H_ (by rw[<-HT.o,HN.o])⟩);case measure=>simp[intOf];omega
  ·have HN:=H_ (zp1 xs k d (by omega))
   obtain rfl:k=xs.length:=by omega
   have HK:=H_ (show ν xs=(inB xs.length 1 40&&d==1) by
    simp only[ν,<-HT.o,HN.o,inB];rw[cm_];simp;omega)
   cases hb:inB xs.length 1 40
   ·go_wp2_with (go_at_call 101;refine(za0 _ _ _ _).mono ?_;rintro e w' ⟨rfl,rfl⟩)
    go_ret;exact⟨χ (by rw[HK.o,hb];rfl),rfl⟩
   ·go_wp2_with (go_at_call 101;refine(za0 _ _ _ _).mono ?_;rintro e w' ⟨rfl,rfl⟩)
    go_ret;exact⟨χ (by rw[HK.o,hb];rfl),rfl⟩
inductive KT where
 | leaf (n:Int)
 | star (t:KT)
 | bin (p:Bool) (a b:KT)
def KT.op(p:Bool):Int:=if p then 20 else 19
def KT.post:KT->List Int
 | .leaf n=>[n]
 | .star t=>t.post++[21]
 | .bin p a b=>a.post++b.post++[KT.op p]
def KT.ok(lo:Int):KT->Bool
 | .leaf n=>decide (lo<=n)&&decide (n<=18)
 | .star t=>t.ok lo
 | .bin _ a b=>a.ok lo&&b.ok lo
def KT.size:KT->Nat
 | .leaf _=>1
 | .star t=>t.size+1
 | .bin _ a b=>a.size+b.size+1
theorem KT.post_length:∀ t:KT,t.post.length=t.size
 | .leaf _=>rfl
 | .star t=>by simp[post,size,t.post_length]
 | .bin _ a b=>by simp[post,size,a.post_length,b.post_length];omega
def zaz:=@KT.post_length
theorem KT.size_pos(t:KT):1<=t.size:=by cases t<;>simp[KT.size]
theorem zmo(p:Bool):Ο (KT.op p)=2:=by cases p<;>rfl
theorem zni:Ο 21=1:=rfl
theorem zkz {n:Int}(h:n<=18):Ο n=0:=zmm n (by omega) (by omega) (by omega)
def zcn:List Int->Int->Option Nat
 | [],n=>if n<=0 then some 0 else none
 | s :: r,n=>if n<=0 then some 0 else (zcn r (n-1+Ο s)).map (·+1)
theorem zkc(r:List Int):zcn r 0=some 0:=by cases r<;>simp[zcn]
theorem zib(s:Int)(r:List Int)(n:Int)(h:0<n):zcn (s :: r) n=(zcn r (n-1+Ο s)).map (·+1):=by
 rw[zcn,m_ (by omega)]
theorem zi5(lo:Int):∀ (t:KT),t.ok lo=true->∀ (r:List Int) (n:Int),0<n->zcn (t.post.reverse++r) n=(zcn r (n-1)).map (·+t.size)
 | .leaf k,hk,r,n,hn=>by
  simp only[KT.ok,j_,t_]at hk;simp only[KT.post,KT.size,dc_,dj_];rw[zib _ _ _ hn,zkz hk.2,Int.add_zero]
 | .star t,hk,r,n,hn=>by
  simp only[KT.ok]at hk;simp only[KT.post,KT.size,bm_,dc_,ad_,aj_];rw[zib _ _ _ hn,zni,zi5 lo t hk r _ (by omega),dq_];rw[show n-1+1-1=n-1 by omega];rfl
 | .bin p a b,hk,r,n,hn=>by
  simp only[KT.ok,j_]at hk;simp only[KT.post,KT.size,bm_,dc_,ad_,aj_,Z_];rw[zib _ _ _ hn,zmo,zi5 lo b hk.2 _ _ (by omega),zi5 lo a hk.1 r _ (by omega),dq_,dq_];rw[show n-1+2-1-1=n-1 by omega]
  congr 1
  funext x
  simp only[Function.comp];omega
def zdm:List KT->List Int
 | []=>[]
 | t :: r=>zdm r++t.post
def zbm(s:Int)(st:List KT):Option (List KT):=
 if Ο s=2 then match st with
   | b :: a :: r=>some (.bin (s==20) a b :: r)
   | _=>none
  else if Ο s=1 then match st with
   | a :: r=>some (.star a :: r)
   | _=>none
  else some (.leaf s :: st)
def zar:List Int->List KT->Option (List KT)
 | [],st=>some st
 | s :: r,st=>(zbm s st).bind (zar r)
theorem ztn {st st':List KT}(h:zbm s st=some st'):zdm st'=zdm st++[s]:=by
 unfold zbm at h
 split at h
 ·rename_i ht
  split at h
  ·injection h with h
   subst h
   have:s=19\/s=20:=by
    unfold Ο at ht
    split at ht
    ·assumption
    ·split at ht<;>omega
   rcases this with rfl|rfl<;>simp[zdm,KT.post,KT.op]
  ·cases h
 ·split at h
  ·rename_i ht
   split at h
   ·injection h with h
    subst h
    have:s=21:=by
     unfold Ο at ht
     split at ht
     ·omega
     ·split at ht
      ·assumption
      ·omega
    subst this;simp[zdm,KT.post]
   ·cases h
  ·injection h with h
   subst h;simp[zdm,KT.post]
theorem zl7:∀ (e:List Int) (st st':List KT),zar e st=some st'->zdm st'=zdm st++e
 | [],st,st',h=>by simp[zar] at h;simp[h]
 | s :: r,st,st',h=>by
  simp only[zar,M_]at h;obtain⟨s1,h1,h2⟩:=h;rw[zl7 r s1 st' h2,ztn h1];simp
def oks(lo:Int)(st:List KT):Prop:=∀ t∈st,t.ok lo=true
theorem zn2 {lo:Int} {st st':List KT}(hs:lo<=s)(hs':s<=21)(ho:oks lo st)(h:zbm s st=some st'):oks lo st':=by
 unfold zbm at h
 split at h
 ·split at h
  ·injection h with h
   subst h;intro t ht;simp only[N_]at ht;rcases ht with rfl|ht
   ·simp[KT.ok,ho _ (au_ ..),ho _ (cf_ _ (au_ ..))]
   ·exact ho _ (by simp[ht])
  ·cases h
 ·split at h
  ·split at h
   ·injection h with h
    subst h;intro t ht;simp only[N_]at ht;rcases ht with rfl|ht
    ·simp[KT.ok,ho _ (au_ ..)]
    ·exact ho _ (by simp[ht])
   ·cases h
  ·rename_i h1 h2
   injection h with h;subst h;intro t ht;simp only[N_]at ht;rcases ht with rfl|ht
   ·have hle:s<=18:=by
     unfold Ο at h1 h2;by_cases hh:s=19\/s=20
     ·simp[hh]at h1
     ·by_cases h3:s=21
      ·subst h3;simp at h2
      ·omega
    simp[KT.ok,hs,hle]
   ·exact ho _ ht
theorem z00 {st:List KT}(h:¬(s<0\/21<s\/(st.length:Int)<Ο s)):∃ st',zbm s st=some st'/\(st'.length:Int)=st.length+1-Ο s:=by
 unfold zbm;have hb:=zev s
 split
 ·rename_i ht
  match st,h with
  | [],h=>simp at h;omega
  | [x],h=>simp at h;omega
  | b :: a :: r,h=>exact⟨_,rfl,by simp;omega⟩
 ·split
  ·rename_i ht
   match st,h with
   | [],h=>simp at h;omega
   | a :: r,h=>exact⟨_,rfl,by simp;omega⟩
  ·exact⟨_,rfl,by simp;omega⟩
theorem zmu:∀ (e:List Int) (st:List KT) (d:Int),oks 0 st->zam e st.length=some d->∃ st',zar e st=some st'/\oks 0 st'/\(st'.length:Int)=d
 | [],st,d,ho,h=>⟨st,rfl,ho,by simpa [zam] using h⟩
 | s :: r,st,d,ho,h=>by
  rw[zam]at h
  split at h
  ·cases h
  ·rename_i hb
   obtain⟨st1,h1,h2⟩:=z00 hb;rw[<-h2]at h;obtain⟨st',h3,h4,h5⟩:=zmu r st1 d (zn2 (by omega) (by omega) ho h1) h;exact⟨st',by simp[zar,h1,h3],h4,h5⟩
theorem zex {e:List Int}(h:ν e=true):∃ t:KT,t.ok 0=true/\t.post=e/\zar e []=some [t]/\t.size<=40:=by
 simp only[ν,j_,t_,bu_]at h;obtain⟨⟨h1,h2⟩,h3⟩:=h;obtain⟨st,h4,h5,h6⟩:=zmu e [] 1 (by intro t ht;cases ht) h3
 match st,h6 with
 | [t],_=>
  have hp:=zl7 e [] [t] h4;simp only[zdm,ad_]at hp;exact⟨t,h5 t (by simp),hp,h4,by rw[<-t.post_length,hp];exact h2⟩
theorem zg5:∀ (a b:List Int) (st:List KT),zar (a++b) st=(zar a st).bind (zar b)
 | [],b,st=>by simp[zar]
 | s :: r,b,st=>by
  simp only[aj_,zar,Option.bind_assoc]
  congr 1
  funext x
  exact zg5 r b x
theorem zem(lo:Int):∀ (t:KT),t.ok lo=true->∀ st,zar t.post st=some (t :: st)
 | .leaf n,h,st=>by
  simp only[KT.ok,j_,t_]at h;simp[KT.post,zar,zbm,zkz h.2]
 | .star t,h,st=>by
  simp only[KT.ok]at h;simp only[KT.post];rw[zg5,zem lo t h];simp[zar,zbm,zni]
 | .bin p a b,h,st=>by
  simp only[KT.ok,j_]at h;simp only[KT.post];rw[zg5,zg5,zem lo a h.1];simp only[ab_];rw[zem lo b h.2];simp only[ab_,zar,zbm,zmo];cases p<;>simp[KT.op]
theorem zzz {lo:Int} {a b:KT}(ha:a.ok lo=true)(hb:b.ok lo=true)(h:a.post=b.post):a=b:=by
 have h1:=zem lo a ha [];rw[h,zem lo b hb]at h1;injection h1 with h1;injection h1 with h1;exact h1.symm
theorem zgj:∀ (a b:List Int) (d:Int),zam (a++b) d=(zam a d).bind (zam b)
 | [],b,d=>by simp[zam]
 | s :: r,b,d=>by
  simp only[aj_,zam]
  split
  ·rfl
  ·exact zgj r b _
theorem zhr:∀ (t:KT),t.ok 0=true->∀ d:Int,0<=d->zam t.post d=some (d+1)
 | .leaf n,h,d,hd=>by
  simp only[KT.ok,j_,t_]at h;have:=zkz h.2;simp only[KT.post];rw[zam,m_ (by omega),this];simp[zam]
 | .star t,h,d,hd=>by
  simp only[KT.ok]at h;simp only[KT.post];rw[zgj,zhr t h d hd];have:=zni;simp only[ab_];rw[zam,m_ (by omega),this];simp[zam]
 | .bin p a b,h,d,hd=>by
  simp only[KT.ok,j_]at h;simp only[KT.post];rw[zgj,zgj,zhr a h.1 d hd];simp only[ab_];rw[zhr b h.2 _ (by omega)];have:=zmo p;simp only[ab_];rw[zam,m_ (by cases p<;>simp[KT.op]at *<;>omega),this];simp only[zam]
  congr 1
  omega
theorem zmz {t:KT}(h:t.ok 0=true)(hs:t.size<=40):ν t.post=true:=by
 have:=t.size_pos;simp only[ν,j_,t_,bu_,t.post_length];exact⟨⟨this,hs⟩,zhr t h 0 (by omega)⟩
theorem zd1(n:Nat)(h:n<4611686018427387904):IntKind.i64.wrap (n:Int)=n:=IntWalk.i64_in _ (by omega)
theorem zrc(a b:Nat)(ha:a<4611686018427387904)(hb:b<4611686018427387904):bits .and .i64 a b=((a &&& b:Nat):Int):=by
 have ha':a%2 ^ 64=a:=b4_ (by omega);have hb':b%2 ^ 64=b:=b4_ (by omega)
 have h:(BitVec.ofInt 64 (a:Int) &&& BitVec.ofInt 64 (b:Int)).toNat=a &&& b:=by
  rw[bv_,bv_,BitVec.toNat_and,cc_,cc_,ha',hb']
 show IntKind.i64.wrap ((BitVec.ofInt 64 (a:Int) &&& BitVec.ofInt 64 (b:Int)).toNat:Int)=_
 rw[h];exact zd1 _ (Nat.and_lt_two_pow (n:=62) _ hb)
theorem zko(a b:Nat)(ha:a<4611686018427387904)(hb:b<4611686018427387904):bits .or .i64 a b=((a ||| b:Nat):Int):=by
 have ha':a%2 ^ 64=a:=b4_ (by omega);have hb':b%2 ^ 64=b:=b4_ (by omega)
 have h:(BitVec.ofInt 64 (a:Int) ||| BitVec.ofInt 64 (b:Int)).toNat=a ||| b:=by
  rw[bv_,bv_,BitVec.toNat_or,cc_,cc_,ha',hb']
 show IntKind.i64.wrap ((BitVec.ofInt 64 (a:Int) ||| BitVec.ofInt 64 (b:Int)).toNat:Int)=_
 rw[h];exact zd1 _ (ce_ (n:=62) ha hb)
theorem zrz(a b:Nat)(ha:a<4611686018427387904)(hb:b<4611686018427387904):bits .xor .i64 a b=((a ^^^ b:Nat):Int):=by
 have ha':a%2 ^ 64=a:=b4_ (by omega);have hb':b%2 ^ 64=b:=b4_ (by omega)
 have h:(BitVec.ofInt 64 (a:Int) ^^^ BitVec.ofInt 64 (b:Int)).toNat=a ^^^ b:=by
  rw[bv_,bv_,BitVec.toNat_xor,cc_,cc_,ha',hb']
 show IntKind.i64.wrap ((BitVec.ofInt 64 (a:Int) ^^^ BitVec.ofInt 64 (b:Int)).toNat:Int)=_
 rw[h];exact zd1 _ (Nat.xor_lt_two_pow (n:=62) ha hb)
theorem zz2(x y:Int)(h1:0<=x)(h2:x<4611686018427387904)(h3:0<=y)(h4:y<4611686018427387904):0<=bits .xor .i64 x y:=by
 have h:=zrz x.toNat y.toNat (by omega) (by omega);rw[show ((x.toNat:Nat):Int)=x by omega,show ((y.toNat:Nat):Int)=y by omega]at h;rw[h];exact Int.natCast_nonneg _
def zec(t:Nat):Nat->List UInt8
 | 0=>[]
 | k+1=>zec t k++(if (t >>> k)%2=1 then [UInt8.ofNat (48+k)] else [])
def zej:Nat->Option (List UInt8)
 | 0=>some [48]
 | 15=>some [49]
 | 10=>some [112]
 | 12=>some [113]
 | 5=>some [33,112]
 | 3=>some [33,113]
 | _=>none
def Υ(t:Nat):List UInt8:=match zej t with | some s=>s | none=>91 :: zec t 4++[93]
def hb(t k:Nat):Bool:=(t >>> k)%2==1
theorem zob(t:Int)(w:World):Calls prog 118 #[.int .i64 t] w λe w'=>e=.returned (.bool (inB t 0 15))/\w=w':=by
 go_enter func118,ntmps118
 by_cases h1:0<=t
 ·by_cases h2:t<=15
  ·go_wp2
   go_ret;exact⟨χ (by simp[inB,h1,h2]),rfl⟩
  ·go_wp2
   go_ret;exact⟨χ (by simp[inB];omega),rfl⟩
 ·go_wp2
  go_ret;exact⟨χ (by simp[inB];omega),rfl⟩
theorem zg0(t k:Nat)(ht:t<16)(hk:k<4)(w:World):Calls prog 148 #[.int .i64 t,.int .i64 k] w λe w'=>e=.returned (.bool (hb t k))/\w=w':=by
 have⟨h1,h2⟩:(t=0\/t=1\/t=2\/t=3\/t=4\/t=5\/t=6\/t=7\/t=8\/t=9\/t=10\/t=11\/t=12\/t=13\/t=14\/t=15)/\(k=0\/k=1\/k=2\/k=3):=by omega
 clear ht hk;rcases h2 with rfl|rfl|rfl|rfl
 all_goals rcases h1 with rfl | rfl | rfl | rfl | rfl | rfl | rfl | rfl | rfl | rfl | rfl | rfl | rfl | rfl | rfl | rfl
 all_goals (go_enter func148,ntmps148;go_wp2;go_ret;exact⟨rfl,rfl⟩)
theorem zqj(t k:Nat)(ht:t<16)(hk:k<4)(w:World):Calls prog 109 #[.int .i64 t,.int .i64 k] w λe w'=>e=.returned (.int .i64 (if hb t k then 1 else 0))/\w=w':=by
 have⟨h1,h2⟩:(t=0\/t=1\/t=2\/t=3\/t=4\/t=5\/t=6\/t=7\/t=8\/t=9\/t=10\/t=11\/t=12\/t=13\/t=14\/t=15)/\(k=0\/k=1\/k=2\/k=3):=by omega
 clear ht hk;rcases h2 with rfl|rfl|rfl|rfl
 all_goals rcases h1 with rfl | rfl | rfl | rfl | rfl | rfl | rfl | rfl | rfl | rfl | rfl | rfl | rfl | rfl | rfl | rfl
 all_goals (go_enter func109,ntmps109;go_wp2;go_ret;exact⟨rfl,rfl⟩)
theorem zra(h:hb t k=true):zec t (k+1)=zec t k++[UInt8.ofNat (48+k)]:=by
 simp only[hb,bu_]at h;simp[zec,h]
theorem zs5(h:hb t k=false):zec t (k+1)=zec t k:=by
 have h':¬(t >>> k)%2=1:=by simpa [hb] using h
 simp[zec,h']
theorem zfp(l:List UInt8)(c:UInt8)(l':List UInt8)(h:l'=l++[c]):(ByteArray.mk l.toArray)++(ByteArray.mk #[c])=ByteArray.mk l'.toArray:=by
 subst h
 show ByteArray.mk l.toArray++ByteArray.mk [c].toArray=_
 rw[bn_]
def zdc(w:World):Prop:=∃ bm,w.cell? (p_ 0 0)=some (.map (some bm))/\bm<w.heap.size /\
 ∀ w':World,w'.heap[bm]?=w.heap[bm]?->∀ t:Nat,t<16 ->
  (Instr.lookup 109 (.map (some bm)) t true).run prog w'=.ok (match zej t with | some s=>.tuple #[.string ⟨s.toArray⟩,.bool true] | none=>.tuple #[.string ⟨#[]⟩,.bool false]) w'
theorem zdc.below(h:zdc w)(hb:Below w w w'):zdc w':=by
 obtain⟨bm,h1,h2,h3⟩:=h;refine⟨bm,(hb.cell (as_ w _ h1)).trans h1,T_ h2 hb.size,λw2 h=>h3 w2 (h.trans (hb.block bm h2))⟩
theorem zkb(t:Nat)(ht:t<16)(w:World)(hM:zdc w):
  Calls prog 95 #[.int .i64 t] w λe w'=>e=.returned (.string ⟨(Υ t).toArray⟩)/\w=w':=by
 obtain⟨bm,c0,_,hlook⟩:=hM;have hl:=hlook w rfl t ht;clear hlook;have hv:inB (t:Int) 0 15=true:=by simp[inB];omega
 cases hn:zej t with
 | some s=>
  rw[hn]at hl;have HT:=H_ (show Υ t=s by simp[Υ,hn]);clear hn
  go_enter func95,ntmps95
  go_wp2_with (go_at_call 118;refine(zob _ _).mono ?_;rintro e w' ⟨rfl,rfl⟩)
  go_ret;exact⟨by rw[HT.o];rfl,rfl⟩
 | none=>
  rw[hn]at hl;have HT:=H_ (show Υ t=91 :: zec t 4++[93] by simp[Υ,hn]);clear hn
  go_enter func95,ntmps95
  go_wp2_with (go_at_call 118;refine(zob _ _).mono ?_;rintro e w' ⟨rfl,rfl⟩)
  go_loop [5,18] (λs i=>∃ (k:Nat) (l:List UInt8),k<=4/\i=.int .i64 k/\s=.string ⟨l.toArray⟩/\l.length<=1+k/\Q_ (l=91 :: zec t k)) (λ_ i=>4-(intOf i).toNat)
  case atStart=>exact⟨0,[91],by omega,rfl,rfl,by simp,H_ rfl⟩
  case round=>
   obtain⟨k,l,hk,rfl,rfl,hlen,HL⟩:=hrel;by_cases hlt:k<4
   ·cases hq:hb t k
    ·(have HN:=H_ (zs5 hq));go_wp2_with (go_at_call 148;refine(zg0 t k ht hlt _).mono ?_;rintro e w' ⟨rfl,rfl⟩)
     go_round
     (case rel=>exact⟨k+1,l,by omega,by go_num,rfl,by omega,H_ (by rw[HL.o,HN.o])⟩);case measure=>simp[intOf];omega
    ·(have HN:=H_ (zra hq));(have hk4:k=0\/k=1\/k=2\/k=3:=by omega);rcases hk4 with rfl|rfl|rfl|rfl
     ·(have hu:(Utf8.encode 48).size=1:=rfl);go_wp2_with (go_at_call 148;refine(zg0 t 0 ht hlt _).mono ?_;rintro e w' ⟨rfl,rfl⟩)
      go_round
      (case rel=>exact⟨1,l++[48],by omega,by go_num,congrArg Value.string (zfp _ _ _ rfl),by simp;omega,H_ (by rw[HL.o,HN.o];rfl)⟩);case measure=>simp[intOf]
     ·(have hu:(Utf8.encode 49).size=1:=rfl);go_wp2_with (go_at_call 148;refine(zg0 t 1 ht hlt _).mono ?_;rintro e w' ⟨rfl,rfl⟩)
      go_round
      (case rel=>exact⟨2,l++[49],by omega,by go_num,congrArg Value.string (zfp _ _ _ rfl),by simp;omega,H_ (by rw[HL.o,HN.o];rfl)⟩);case measure=>simp[intOf]
     ·(have hu:(Utf8.encode 50).size=1:=rfl);go_wp2_with (go_at_call 148;refine(zg0 t 2 ht hlt _).mono ?_;rintro e w' ⟨rfl,rfl⟩)
      go_round
      (case rel=>exact⟨3,l++[50],by omega,by go_num,congrArg Value.string (zfp _ _ _ rfl),by simp;omega,H_ (by rw[HL.o,HN.o];rfl)⟩);case measure=>simp[intOf]
     ·(have hu:(Utf8.encode 51).size=1:=rfl);go_wp2_with (go_at_call 148;refine(zg0 t 3 ht hlt _).mono ?_;rintro e w' ⟨rfl,rfl⟩)
      go_round
      (case rel=>exact⟨4,l++[51],by omega,by go_num,congrArg Value.string (zfp _ _ _ rfl),by simp;omega,H_ (by rw[HL.o,HN.o];rfl)⟩);case measure=>simp[intOf]
   ·(obtain rfl:k=4:=by omega);go_wp2;go_ret;exact⟨congrArg (λb=>Ending.returned (Value.string b)) (zfp _ _ _ (by rw[HT.o,HL.o])),rfl⟩
def ze0(l:List UInt8):Option Nat:=(List.range 16).find? λt=>Υ t==l
def NoT(l:List UInt8)(k:Nat):Prop:=∀ j,j<k->Υ j≠l
theorem zop {l:List UInt8}(hk:k<16)(hn:NoT l k)(h:Υ k=l):ze0 l=some k:=by
 unfold ze0;rw[List.find?_range_eq_some];refine⟨by simpa using h,by simpa using hk,λj hj=>by simpa using hn j hj⟩
theorem zsx {l:List UInt8}(hn:NoT l 16):ze0 l=none:=by
 unfold ze0;rw[List.find?_eq_none];intro t ht
 simpa using hn t (by simpa using ht)
def rdT:Option Nat->Value
 | some t=>.tuple #[.int .i64 t,.bool true]
 | none=>.tuple #[.int .i64 (-1),.bool false]
theorem zq8(l:List UInt8)(s:ByteArray)(hs:s=⟨l.toArray⟩)(w:World)(hM:zdc w):
  Calls prog 217 #[.string s] w λe w'=>e=.returned (rdT (ze0 l))/\w=w':=by
 subst hs;have HM:=H_ hM;clear hM
 go_enter func217,ntmps217
 go_wp2
 go_loop [5] (λi=>∃ k:Nat,k<=16/\i=.int .i64 k/\Q_ (NoT l k)) (λi=>16-(intOf i).toNat)
 case atStart=>exact⟨0,by omega,rfl,H_ (by intro j hj;omega)⟩
 case round=>
  obtain⟨k,hk,rfl,HN⟩:=hrel;by_cases hlt:k<16
  ·cases hq:(Υ k==l)
   ·go_wp2_with (go_at_call 95;refine(zkb k hlt _ HM.o).mono ?_;rintro e w' ⟨rfl,rfl⟩)
    go_round
    case rel=>
     refine⟨k+1,by omega,by go_num,H_ ?_⟩;intro j hj;rcases bi_ j k with h|h
     ·exact HN.o j h
     ·(obtain rfl:j=k:=by omega);simpa using hq
    case measure=>simp[intOf];omega
   ·(have HR:=H_ (zop hlt HN.o (by simpa using hq)));go_wp2_with (go_at_call 95;refine(zkb k hlt _ HM.o).mono ?_;rintro e w' ⟨rfl,rfl⟩)
    go_ret2
    exact⟨by rw[HR.o];rfl,rfl⟩
  ·obtain rfl:k=16:=by omega
   have HR:=H_ (zsx HN.o);go_wp2
   go_ret2
   exact⟨by rw[HR.o];rfl,rfl⟩
abbrev PR:=List UInt8->Option (List Int × List UInt8)
def ze1(sum:PR):PR
 | []=>none
 | c :: r=>
  if c.toNat=40 then
   match sum r with
   | some (e,d :: r2)=>if d.toNat=41 then some (e,r2) else none
   | _=>none
  else if c.toNat=33\/c.toNat=91 then none
  else if 97<=c.toNat/\c.toNat<=99 then some ([16+((c.toNat:Int)-97)],r)
  else match ze0 [c] with
   | some t=>some ([(t:Int)],r)
   | none=>none
def zbz:List Int->List UInt8->List Int × List UInt8
 | e,[]=>(e,[])
 | e,c :: r=>if c.toNat=42 then zbz (e++[21]) r else (e,c :: r)
def zgg(single:PR):PR:=λs=>(single s).map λx=>zbz x.1 x.2
def zbk(sign:Nat)(op:Int)(part:PR):Nat->List Int->PR
 | _,e,[]=>some (e,[])
 | 0,e,c :: r=>if c.toNat=sign then none else some (e,c :: r)
 | n+1,e,c :: r=>if c.toNat=sign then (part r).bind λx=>zbk sign op part n (e++x.1++[op]) x.2 else some (e,c :: r)
def zd4(sign:Nat)(op:Int)(part:PR):PR:=λs=>(part s).bind λx=>zbk sign op part x.2.length x.1 x.2
def ze7:Nat->PR
 | 0=>λ_=>none
 | n+1=>zd4 43 20 (zd4 59 19 (zgg (ze1 (ze7 n))))
def Ends(p:PR):Prop:=∀ s e r,p s=some (e,r)->∃ k,1<=k/\k<=s.length/\r=s.drop k
theorem zb1 {row:Option Nat}(hg:w.grownBy w' row)(h:∀ k,row=some k->lo<=k/\k<hi):β lo hi w w':=
 ⟨hg.os,hg.tape,hg.output,hg.size,λk hk hd=>hg.block k hk (λe=>by have:=h k e.symm;omega)⟩
theorem Own.lt {xs:List Value}(h:Own sz lo hi e w v n xs):∀ k,v.ownBlock=some k->lo<=k/\k<hi:=
 λk hk=>⟨(h.1.lt k hk).1,h.2 k hk⟩
theorem Own.of_row {xs:List Value}(h:w.ownsRow lo e sz v n xs):Own sz lo w e w v n xs:=
 ⟨h,λk hk=>(h.lt k hk).2⟩
def zfs:=@Own.of_row
theorem Own.nil(sz lo hi e:Nat)(w:World):Own sz lo hi e w () 0 []:=⟨World.ownsRow_nil _ _ _ _,by simp[Value.ownBlock]⟩
def Ω:=@Own.nil
theorem Own.wide {xs:List Value}(h:Own sz lo hi e w v n xs)(hh:hi<=hi'):Own sz lo hi' e w v n xs:=
 ⟨h.1,λk hk=>T_ (h.2 k hk) hh⟩
def zf9:=@Own.wide
theorem Own.wide2 {xs:List Value}(h:Own sz lo hi e w v n xs)(hl:lo'<=lo)(hh:hi<=hi'):Own sz lo' hi' e w v n xs:=by
 obtain⟨⟨h1,h2⟩,h3⟩:=h;refine⟨⟨h1,?_⟩,λk hk=>T_ (h3 k hk) hh⟩;rcases h2 with h2|⟨g,cap,cur,hv,hb,hrest⟩
 ·exact .inl h2
 ·exact .inr ⟨g,cap,cur,hv,J_ hl hb,hrest⟩
def za3:=@Own.wide2
theorem Own.alloc {xs:List Value}(h:Own sz lo hi e w v n xs)(o:Obj):Own sz lo hi e (w.alloc o) v n xs:=
 ⟨h.1.alloc o,h.2⟩
theorem Own.lit(sz e:Nat)(w:World)(cs:List Value)(n:Nat)(hm:n<=1073741824)(hs:cs.length=n*sz):
  Own sz w (w+1) e (w.alloc (.cells cs.toArray e)) (.slice (q_ w 0) n n) n cs:=by
 refine⟨World.ownsRow_lit (base:=w.heap.size) (size:=sz) w cs.toArray n (le_ _) (by unfold maxLen;omega) (by simpa using hs),λg hg=>?_⟩;simp[Value.ownBlock]at hg;omega
def ς:=@Own.lit
section
variable {P:Program} {w:World} {ops:Array Oper} {rest:List Oper} {o:Oper} {a:Act} {Q:Exit->Act->World->Prop}
theorem Μ(hgd:o.guard=none)(s x:Operand)(t:TypeId)
  (ho:o.op=.call { callee:=.builtin .append,args:=#[s,x],argTypes:=#[t,t] })
  (e:TypeId) (z:Value) (sz bytes:Nat) (ht:P.underlying t=some (.slice e)) (hinfo:(P.info? e).map (λi=>(i.zero,i.size,i.bytes))=some (some z,sz,bytes))
  (hzs:z.cells.size=sz) (hsz:0<sz) (hby:bytes<=64)
  {lo hi lo' hi' n:Nat} {v:Value} {xs:List Value} (hs:a.eval s=v) (hown:Own sz lo hi e w v n xs)
  {vx:Value} {m:Nat} {ys:List Value} (hx:a.eval x=vx) (hsl:Sl sz lo' hi' w vx m ys) (h1:∀ u∈ys,u.oneCell'=true)
  (hn:n+m<=1073741824) (hlo:lo<=w)
  (h:∀ v' w',Own sz lo w'.heap.size e w' v' (n+m) (xs++ys)->w.grownBy w' v.ownBlock->β lo hi w w'->(v'=.slice none 0 0↔v=.slice none 0 0/\m=0)->wpList P ops Q rest (a.put o.dst v') w'):wpList P ops Q (o :: rest) a w:=by
 obtain⟨i,hi0,hz,hsize,hb⟩:=b8_ hinfo;obtain⟨ao,c,rfl,hmc,hcm,hlen,hnone,hc⟩:=hsl;have hmx:(n+m)*bytes<=140737488355328:=J_ (bk_ hn hby) (by decide);cases ao with
 | none=>
  obtain rfl:=hnone rfl;obtain rfl:m=0:=by omega
  obtain rfl:ys=[]:=A_ (by simpa using hlen);refine wpList_plain hgd λK hK=>?_
  have hrun:=run_append_owned_none (P:=P) w lo t o.type e i sz ht hi0 _ n xs hown.1;have hk:=h v w (by simpa using ⟨hown.1,λg hg=>(hown.1.lt g hg).2⟩) (World.grownBy.refl _ _) (β.refl _ _ _) (by simp);unfold Oper.wp;simp[execOp,ho,resolve,invoke,builtin,hs,hx,hrun,Result.andThen];exact hK _ _ hk
 | some ad=>
  refine wpList_append_own w hgd s x t ho lo e i z sz bytes ht hi0 hz hsize hb hzs hsz v n xs hs hown.1 ad m c ys hx hlen ?_ h1 (by unfold maxLen;omega) hmx hlo ?_
  ·intro j u hu
   have hj:=(a3_.1 hu).1;obtain⟨b,off,e1,_,_,_,e2⟩:=hc j hj;injection e1 with e1;subst e1;rw[a5_,e2,hu]
  ·intro v' w' h2 h3 h4
   exact h v' w' (zfs h2) h3 (zb1 h3 hown.lt) h4
theorem zap(w0:World)(hgd:o.guard=none)(s x:Operand)(t:TypeId)
  (ho:o.op=.call { callee:=.builtin .append,args:=#[s,x],argTypes:=#[t,t] })
  (e:TypeId) (z:Value) (sz bytes:Nat) (ht:P.underlying t=some (.slice e)) (hinfo:(P.info? e).map (λi=>(i.zero,i.size,i.bytes))=some (some z,sz,bytes))
  (hzs:z.cells.size=sz) (hsz:0<sz) (hby:bytes<=64)
  {lo hi n:Nat} {v:Value} {xs:List Value} (hs:a.eval s=v) (hown:Own sz lo hi e w0 v n xs)
  (m:Nat) (ys:List Value) (hx:a.eval x=.slice (q_ w0 0) m m) (hlen:ys.length=m*sz) (h1:∀ u∈ys,u.oneCell'=true) (hw:w=w0.alloc (.cells ys.toArray e))
  (hn:n+m<=1073741824) (hlo:lo<=w0)
  (h:∀ v' w',Own sz lo w'.heap.size e w' v' (n+m) (xs++ys)->β lo hi w0 w'->(v'=.slice none 0 0↔v=.slice none 0 0/\m=0)->wpList P ops Q rest (a.put o.dst v') w'):wpList P ops Q (o :: rest) a w:=by
 subst hw;have hl:=(ς sz e w0 ys m (by omega) hlen).sl;refine Μ hgd s x t ho e z sz bytes ht hinfo hzs hsz hby hs (hown.alloc _) hx hl h1 hn (by simp;omega) ?_;intro v' w' h2 _ h3 h4;have hb:β lo hi w0 (w0.alloc (.cells ys.toArray e)):=β.of_below ((B_ _ _).alloc (le_ _) _) (le_ _);exact h v' w' h2 (hb.trans h3) h4
end
theorem Ι(xs:List Int):∀ u∈δ xs,u.oneCell'=true:=ints_oneCell _ _
theorem zaa(xs ys:List Int):δ (xs++ys)=δ xs++δ ys:=by simp[δ]
theorem μ(w:World)(o:Obj):(w.alloc o).heap.size=w.heap.size+1:=by simp
def Blk(g:Nat)(o:Obj)(w:World):Prop:=w.heap[g]?=some o
theorem Blk.new(w:World)(o:Obj):Blk w o (w.alloc o):=ba_ w o
def κ:=@Blk.new
theorem Blk.lt {o:Obj}(h:Blk g o w):g<w:=(L_.1 h).1
theorem Blk.below {o:Obj}(h:Blk g o w)(hb:Below B w w')(hB:g<B):Blk g o w':=(hb.block g hB).trans h
theorem Blk.outside {o:Obj}(h:Blk g o w)(hb:β lo hi w w')(hd:g<lo\/hi<=g):Blk g o w':=(hb.block g h.lt (by omega)).trans h
def zcc:=@Blk.outside
theorem Blk.cell {e:TypeId}(h:Blk g (.cells cs e f) w)(j:Nat):w.cell? (p_ g j)=cs[j]?:=by
 simp only[World.cell?,show w.heap[g]?=_ from h];rfl
theorem Blk.free {e:TypeId}(h:Blk g (.cells cs e (0,0)) w)(j:Nat):w.frozen? (p_ g j)=false:=by
 simp[World.frozen?,show w.heap[g]?=_ from h]
theorem Blk.c2 {e:TypeId}(h:Blk g (.cells cs e f) w):w.cell? (p_ g 0)=cs[0]?/\w.cell? (p_ g 1)=cs[1]?:=
 ⟨h.cell 0,h.cell 1⟩
theorem Blk.f2 {e:TypeId}(h:Blk g (.cells cs e (0,0)) w):w.frozen? (p_ g 0)=false/\w.frozen? (p_ g 1)=false:=
 ⟨h.free 0,h.free 1⟩
theorem Blk.c3 {e:TypeId}(h:Blk g (.cells cs e f) w):w.cell? (p_ g 0)=cs[0]?/\w.cell? (p_ g 1)=cs[1]?/\w.cell? (p_ g 2)=cs[2]?:=
 ⟨h.cell 0,h.cell 1,h.cell 2⟩
theorem Blk.f3 {e:TypeId}(h:Blk g (.cells cs e (0,0)) w):w.frozen? (p_ g 0)=false/\w.frozen? (p_ g 1)=false/\w.frozen? (p_ g 2)=false:=
 ⟨h.free 0,h.free 1,h.free 2⟩
theorem Blk.c4 {e:TypeId}(h:Blk g (.cells cs e f) w):w.cell? (p_ g 0)=cs[0]?/\w.cell? (p_ g 1)=cs[1]?/\w.cell? (p_ g 2)=cs[2]?/\w.cell? (p_ g 3)=cs[3]?:=
 ⟨h.cell 0,h.cell 1,h.cell 2,h.cell 3⟩
theorem Blk.f4 {e:TypeId}(h:Blk g (.cells cs e (0,0)) w):w.frozen? (p_ g 0)=false/\w.frozen? (p_ g 1)=false/\w.frozen? (p_ g 2)=false/\w.frozen? (p_ g 3)=false:=
 ⟨h.free 0,h.free 1,h.free 2,h.free 3⟩
theorem Blk.c5 {e:TypeId}(h:Blk g (.cells cs e f) w):w.cell? (p_ g 0)=cs[0]?/\w.cell? (p_ g 1)=cs[1]?/\w.cell? (p_ g 2)=cs[2]?/\w.cell? (p_ g 3)=cs[3]?/\w.cell? (p_ g 4)=cs[4]?:=
 ⟨h.cell 0,h.cell 1,h.cell 2,h.cell 3,h.cell 4⟩
theorem Blk.f5 {e:TypeId}(h:Blk g (.cells cs e (0,0)) w):w.frozen? (p_ g 0)=false/\w.frozen? (p_ g 1)=false/\w.frozen? (p_ g 2)=false/\w.frozen? (p_ g 3)=false/\w.frozen? (p_ g 4)=false:=
 ⟨h.free 0,h.free 1,h.free 2,h.free 3,h.free 4⟩
theorem zaj(lo hi lo' hi':Nat)(va vb:Value)(xs ys:List Int)(s:Int)(w:World)(hx:SlI lo hi w va xs)(hy:SlI lo' hi' w vb ys)(hh:hi<=w)(hh':hi'<=w)
  (hm:xs.length+ys.length<=4194304) :
  Calls prog 124 #[va,vb,.int .i64 s] w (ι λv w'=>Below w w w'/\γ w w' 3 w' v (xs++ys++[s])):=by
 have HX:=H_ hx;have HY:=H_ hy;clear hx hy;have H0:Q_ (Own 1 w (w+1) 3 (w.alloc (.cells (δ []).toArray 3)) (.slice (q_ w 0) 0 0) 0 (δ [])):=H_ (ς 1 3 w (δ []) 0 (by omega) rfl);have hb0:Q_ (Below w w (w.alloc (.cells (δ []).toArray 3))):=H_ ((B_ _ _).alloc (le_ _) _);have hs0:(w.alloc (.cells (δ []).toArray 3)).heap.size=w.heap.size+1:=by simp
 have KX:=H_ (HX.o.below hb0.o hh);have KY:=H_ (HY.o.below hb0.o hh');have⟨w0,hw0⟩:=xa_ w (δ []).toArray 3;rw[<-hw0]at H0 hb0 hs0 KX KY;have HW0:=H_ hw0;clear hw0
 go_enter func124,ntmps124
 go_wp2_with (at_builtin;go_loud (rw[show w.alloc (.cells #[] 3)=w0 from HW0.o.symm];refine Μ rfl _ _ 22 rfl 3 (0:Int) 1 8 underlying22 ω rfl (by decide) (by decide) rfl H0.o rfl KX.o (Ι _) ?c1 ?c2 ?_))
 case c1=>omega
 case c2=>omega
 intro v1 w1 ho1 _ hout1 _;have hs1:=hout1.size;have O1:=H_ ho1;replace KY:=H_ (KY.o.outside hout1 (.inl hh'));have HB1:=H_ (ε hb0.o hout1 (le_ _) hb0.o.size);clear ho1 hout1 KX H0 hb0 HW0;go_wp2_with (at_builtin;refine Μ rfl _ _ 22 rfl 3 (0:Int) 1 8 underlying22 ω rfl (by decide) (by decide) rfl O1.o rfl KY.o (Ι _) ?c1 ?c2 ?_)
 case c1=>omega
 case c2=>omega
 intro v2 w2 ho2 _ hout2 _;have hs2:=hout2.size;have O2:=H_ ho2;have HB2:=H_ (ε HB1.o hout2 (le_ _) HB1.o.size);clear ho2 hout2 KY O1 HB1;go_wp2_with (at_builtin;refine zap w2 rfl _ _ 22 rfl 3 (0:Int) 1 8 underlying22 ω rfl (by decide) (by decide) rfl O2.o 1 (δ [s]) rfl rfl (Ι _) rfl ?c1 ?c2 ?_)
 case c1=>omega
 case c2=>omega
 intro v3 w3 ho3 hout3 _;have O3:=H_ ho3;have HB3:=H_ (ε HB2.o hout3 (le_ _) HB2.o.size);clear ho3 hout3 O2 HB2;go_wp2;go_ret;refine ι.mk _ rfl ⟨HB3.o,?_⟩;have h:=O3.o;have e1:(xs++ys++[s]).length=xs.length+ys.length+1:=by simp;omega
 have e2:δ (xs++ys++[s])=δ []++(δ xs++(δ ys++δ [s])):=by simp[δ]
 unfold γ;rw[e1,e2];exact h
def zal(n:Int):Bool:=decide (16<=n)&&decide (n<=18)
theorem zb3(n:Int)(w:World):
  Calls prog 176 #[.int .i64 n] w λe w'=>e=.returned (.bool (zal n))/\w=w':=by
 go_enter func176,ntmps176
 by_cases h1:16<=n
 ·by_cases h2:n<=18
  ·go_wp2
   go_ret;exact⟨χ (by simp[zal,h1,h2]),rfl⟩
  ·go_wp2
   go_ret;exact⟨χ (by simp[zal];omega),rfl⟩
 ·go_wp2
  go_ret;exact⟨χ (by simp[zal];omega),rfl⟩
def Ε(n:Nat):List UInt8:=if n<10 then [UInt8.ofNat (48+n)] else [UInt8.ofNat (48+n/10),UInt8.ofNat (48+n%10)]
theorem zbw {a b:List UInt8}(h:a=b):Ending.returned (.string ⟨a.toArray⟩)=.returned (.string ⟨b.toArray⟩):=by rw[h]
theorem zjc {P:Program}(src dst e:TypeId)(hs:P.underlying src=some (.slice e))(he:P.underlying e=some (.int .u8))(hd:P.underlying dst=some .string)(w:World)(ns:List Int):
    Sem.run P (convert src dst (.slice (q_ w 0) ns ns.length)) (w.alloc (.cells (ns.map (Value.int .u8)).toArray e)) =
      .ok (.string ⟨(ns.map λn=>UInt8.ofNat n.toNat).toArray⟩) (w.alloc (.cells (ns.map (Value.int .u8)).toArray e)):=by
  have h:=dk_ (P:=P) (w:=w.alloc (.cells (ns.map (Value.int .u8)).toArray e)) src e hs he w 0 ns.length ns.length ns rfl
    (by intro i hi
        rw[World.cell?,ba_];simp[List.getD,hi]) dst hd
  exact h
structure Mv where
 which:Int
 back:Bool
 at_:Int
deriving DecidableEq
def zbq(m:Mv):List Value:=[.int .i64 m.which,.bool m.back,.int .i64 m.at_]
def mvs(l:List Mv):List Value:=l.flatMap zbq
theorem ziv(l:List Mv):(mvs l).length=l.length*3:=by
 induction l with
 | nil=>rfl
 | cons m r ih=>simp only[mvs,da_,n_] at *;rw[ih];simp[zbq];omega
theorem zwl(l:List Mv):∀ (i:Nat) (h:i<l.length),(mvs l)[i*3]?=some (.int .i64 l[i].which)/\(mvs l)[i*3+1]?=some (.bool l[i].back)/\(mvs l)[i*3+2]?=some (.int .i64 l[i].at_):=by
 induction l with
 | nil=>intro i h;simp at h
 | cons m r ih=>
  intro i h;cases i with
  | zero=>simp[mvs,zbq]
  | succ i=>
   have hi:i<r.length:=by simpa using h
   obtain⟨h1,h2,h3⟩:=ih i hi
   have e:∀ j,(mvs (m :: r))[(i+1)*3+j]?=(mvs r)[i*3+j]?:=by
    intro j;have:(mvs (m :: r))=zbq m++mvs r:=by simp[mvs]
    rw[this,a2_ (by simp[zbq];omega)]
    congr 1
    simp[zbq];omega
   refine⟨?_,?_,?_⟩
   ·rw[show (i+1)*3=(i+1)*3+0 by omega,e 0];simpa using h1
   ·rw[e 1];simpa using h2
   ·rw[e 2];simpa using h3
theorem zg2(l:List Mv):∀ u∈mvs l,u.oneCell'=true:=by
 intro u hu;simp only[mvs,List.mem_flatMap]at hu;obtain⟨m,_,hm⟩:=hu;simp[zbq]at hm;rcases hm with rfl|rfl|rfl<;>rfl
def SlM(lo hi:Nat)(w:World)(v:Value)(l:List Mv):Prop:=Sl 3 lo hi w v l.length (mvs l)
def Ξ(lo hi e:Nat)(w:World)(v:Value)(l:List Mv):Prop:=Own 3 lo hi e w v l.length (mvs l)
theorem Ξ.sl {l:List Mv}(h:Ξ lo hi e w v l):SlM lo hi w v l:=zct h
theorem Ξ.below {xs:List Mv}(h:Ξ lo hi e w v xs)(hb:Below B w w')(hB:hi<=B):Ξ lo hi e w' v xs:=zfw h hb hB
theorem Ξ.outside {xs:List Mv}(h:Ξ lo hi e w v xs)(hb:β lo' hi' w w')(hd:hi<=lo'\/hi'<=lo):Ξ lo hi e w' v xs:=zk3 h hb hd
theorem SlM.below {xs:List Mv}(h:SlM lo hi w v xs)(hb:Below B w w')(hB:hi<=B):SlM lo hi w' v xs:=zch h hb hB
theorem SlM.outside {xs:List Mv}(h:SlM lo hi w v xs)(hb:β lo' hi' w w')(hd:hi<=lo'\/hi'<=lo):SlM lo hi w' v xs:=zhc h hb hd
theorem SlM.wide {xs:List Mv}(h:SlM lo hi w v xs)(h1:lo'<=lo)(h2:hi<=hi'):SlM lo' hi' w v xs:=zg6 h h1 h2
theorem SlM.shape {xs:List Mv}(h:SlM lo hi w v xs):∃ a cap,v=.slice a xs cap/\xs.length<=cap/\cap<=maxLen:=π h
theorem SlM.get {a:Option Addr} {l:List Mv}(h:SlM lo hi w (.slice a n cap) l)(i:Nat)(hi':i<l.length):
  ∃ b off,a=some ⟨b,off,none⟩/\lo<=b/\b<hi/\b<w.heap.size/\w.cell? (p_ b (off+i*3))=some (.int .i64 l[i].which)/\w.cell? (p_ b (off+i*3+1))=some (.bool l[i].back) /\
   w.cell? (p_ b (off+i*3+2))=some (.int .i64 l[i].at_):=by
 obtain⟨a',cap',e,_,_,_,_,hc⟩:=h;injection e with e1 _ _;subst e1;obtain⟨g1,g2,g3⟩:=zwl l i hi';have hl:=ziv l;obtain⟨b,off,e,h1,h2,h3,h4⟩:=hc (i*3) (by omega);obtain⟨b',off',e',_,_,_,h5⟩:=hc (i*3+1) (by omega);obtain⟨b'',off'',e'',_,_,_,h6⟩:=hc (i*3+2) (by omega);rw[e]at e' e'';injection e' with e';injection e' with e1 e2;subst e1 e2;injection e'' with e'';injection e'' with e1 e2;subst e1 e2;exact⟨b,off,e,h1,h2,h3,by rw[h4,g1],by rw[dw_,h5,g2],by rw[dw_,h6,g3]⟩
theorem zb0(x:Int)(w:World):γ w (w.alloc (.cells #[.int .i64 x] 3)).heap.size 3 (w.alloc (.cells #[.int .i64 x] 3)) (.slice (q_ w 0) 1 1) [x]:=
 zf9 (ς 1 3 w (δ [x]) 1 (by omega) rfl) (by simp)
theorem γ.lower(h:γ lo hi e w v xs)(h1:lo'<=lo)(h2:hi<=hi'):γ lo' hi' e w v xs:=za3 h h1 h2
theorem γ.len(h:Own 1 lo hi e w v n (δ xs))(hn:n=xs.length):γ lo hi e w v xs:=by subst hn;exact h
theorem γ.app {a:Option Addr}(h:Own 1 lo hi e w (.slice a n cap) n (δ xs++δ ys))(hn:n=xs.length+ys.length):γ lo hi e w (.slice a (xs++ys).length cap) (xs++ys):=by
 subst hn;unfold γ;rw[n_,zaa];exact h
theorem γ.wide2'(h:γ lo hi e w v xs)(hh:hi<=hi'):γ lo hi' e w v xs:=zf9 h hh
theorem γ.wide2(h:γ lo hi e w v xs)(hl:lo'<=lo)(hh:hi<=hi'):γ lo' hi' e w v xs:=za3 h hl hh
theorem zym(x:Int)(w:World):γ w (w+1) 3 (w.alloc (.cells #[.int .i64 x] 3)) (.slice (q_ w 0) 1 1) [x]:=
 ς 1 3 w (δ [x]) 1 (by omega) rfl
theorem own:ownKnob Tryz.prog.godebug=none:=by kernel_rfl
theorem zl0:laidOutB prog=true:=by kernel_rfl
def zh7(k:IntKind)(w:World)(a:Option Addr)(len cap:Nat)(zs:List Int):Prop:=
 (a=none/\len=0/\cap=0/\zs=[]) \/
 ∃ x,a=some x/\len<=cap/\cap<=maxLen/\zs.length=cap/\(∀ i,i<zs.length->w.cell? (x.add i)=some (.int k (zs.getD i 0)))/\∀ n∈zs,(Lit.int k n).wf=true
theorem zn0 {x:Addr}(h:w.cell? x=some v):x.spot=none:=by
 unfold World.cell? at h
 split at h
 ·split at h
  ·cases h
  ·rename_i hn;simpa using hn
 ·cases h
theorem zh7.sl {k:IntKind} {a:Option Addr} {len:Nat} {zs:List Int}(h:zh7 k w a len cap zs):
  (zs.take len).length=len/\Sl 1 0 w w (.slice a len cap) len ((zs.take len).map (Value.int k)):=by
 rcases h with⟨rfl,rfl,rfl,rfl⟩|⟨x,rfl,hl,hm,hz,hc,_⟩
 ·exact⟨rfl,none,0,rfl,le_ _,by simp[maxLen],rfl,λ_=>rfl,λi hi=>by simp at hi⟩
 ·have hl':(zs.take len).length=len:=by simp;omega
  refine⟨hl',some x,cap,rfl,hl,hm,by simpa using hl',(by intro h;cases h),λi hi=>?_⟩;rw[X_,hl']at hi;have h0:=hc 0 (by omega);have hs:=zn0 h0;obtain⟨b,off,sp⟩:=x
  have hsp:sp=none:=by
   have:(⟨b,off,sp⟩:Addr).add 0=⟨b,off,sp⟩:=by simp[Addr.add]
   rw[this]at hs;exact hs
  subst hsp;have hi':=hc i (by omega);rw[a5_]at hi';refine⟨b,off,rfl,aw_ _,as_ w _ h0,as_ w _ h0,?_⟩;rw[hi',dz_,bb_,x_ hi,l_ (by omega)];simp[List.getD,l_ (show i<zs.length by omega)]
theorem Q_.kb {o:Obj}(k:Q_ (Blk g o w))(h:Below w.heap.size w w'):Q_ (Blk g o w'):=H_ (k.o.below h k.o.lt)
theorem Q_.tr {m:Nat}(k:Q_ (Below n w w'))(h:Below m w' w2)(e:n<=m):Q_ (Below n w w2):=H_ (k.o.trans (h.mono e))
theorem Q_.ts(k:Q_ (Below w.heap.size w w'))(h:Below w'.heap.size w' w2):Q_ (Below w.heap.size w w2):=H_ (k.o.trans (h.mono k.o.size))
end Go.Proofs.YtfnnhimopokpnaaGreatDoor
