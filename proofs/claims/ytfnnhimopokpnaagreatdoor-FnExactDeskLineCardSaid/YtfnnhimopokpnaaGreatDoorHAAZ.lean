/- Lemmas for this seat; no condition. -/
import Derived.Test.YtfnnhimopokpnaaGreatDoorHAAY
namespace Go.Proofs.YtfnnhimopokpnaaGreatDoor
open Go.RowKit
set_option maxRecDepth 100000
set_option maxHeartbeats 0
set_option linter.unusedVariables false
theorem l4Behind_any (lo hi lo' hi':Nat) (va vb:Value) (xs ys:List Int) (w:World) (hx:SlI lo hi w va xs) (hy:SlI lo' hi' w vb ys) (hh:hi≤w.heap.size) (hh':hi'≤w.heap.size) (hm:xs.length+ys.length≤4000000) :
  Calls Tryz.prog 192 #[va,vb] w (RetV fun v w'=>Below w.heap.size w w'∧OwnI w.heap.size w'.heap.size 3 w' v (behV xs ys)):=by
 have HX:=H_ hx
 have HY:=H_ hy
 obtain ⟨w0,hw0⟩:∃ w0,w0=w.alloc (.cells #[.int .i64 15] 3):=⟨_,rfl⟩
 have hb0:Below w.heap.size w w0:=by rw [hw0];exact al_below _ _
 have hs0:w0.heap.size=w.heap.size+1:=by rw [hw0];simp
 have HL:Hid (SlI w.heap.size w0.heap.size w0 (.slice (some ⟨w.heap.size,0,none⟩) 1 1) [15]):=H_ (by
  have h:=(Own.lit 1 3 w (ints [15]) 1 (by omega) rfl).sl
  rw [hs0,hw0]
  exact h)
 have HX0:=H_ (hx.below hb0 hh)
 have HB0:=H_ hb0
 have HW:=H_ hw0
 obtain ⟨aa,ac,rfl,_,_⟩:=Sl.shape hx
 obtain ⟨ba,bc,rfl,_,_⟩:=Sl.shape hy
 clear hx hy hb0 hw0
 go_enter Tryz.func192,Tryz.ntmps192
 go_wp2_with (rw [←HW.out])
 refine (l1SameG_any _ _ _ _ _ _ xs [15] w0 HX0.out HL.out (by omega) (by simp)).mono ?_
 rintro e1 w1 ⟨rfl,hb1⟩
 have hs1:=hb1.size
 have HB1:=H_ (HB0.out.trans (hb1.mono (by omega)))
 have HX1:=H_ (HX.out.below HB1.out hh)
 have HY1:=H_ (HY.out.below HB1.out hh')
 clear hb1 HW HL HX0 HB0
 cases heq:eqL xs [15]
 ·have HE:=H_ (show behV xs ys=xs++ys++[19] by unfold behV;rw [if_neg (fun h=>by rw [h,eqL_same] at heq;cases heq)])
  clear heq
  go_wp2_with fail
  refine (l2Join_any _ _ _ _ _ _ xs ys 19 w1 HX1.out HY1.out (by omega) (by omega) (by omega)).mono ?_
  rintro e2 w2 ⟨v2,rfl,hb2,ho2⟩
  have HR:=H_ (show Below w.heap.size w w2∧OwnI w.heap.size w2.heap.size 3 w2 v2 (behV xs ys) from ⟨HB1.out.trans (hb2.mono (by omega)),by rw [HE.out];exact ho2.lower (by omega) (le_ _)⟩)
  clear hb2 ho2
  go_wp2
  go_ret
  exact RetV.mk _ rfl HR.out
 ·have HE:=H_ (show behV xs ys=ys by unfold behV;rw [if_pos (by rw [eqL_iff] at heq;exact of_decide_eq_true heq)])
  have H0:Hid (Own 1 w1.heap.size (w1.heap.size+1) 3 (w1.alloc (.cells #[] 3)) (.slice (some ⟨w1.heap.size,0,none⟩) 0 0) 0 (ints [])):=H_ (Own.lit 1 3 w1 (ints []) 0 (by omega) rfl)
  obtain ⟨w2,hw2⟩:∃ w2,w2=w1.alloc (.cells #[] 3):=⟨_,rfl⟩
  have hb2:Below w1.heap.size w1 w2:=by rw [hw2];exact al_below _ _
  have hs2:w2.heap.size=w1.heap.size+1:=by rw [hw2];simp
  have HY2:=H_ (HY1.out.below hb2 (by omega))
  have HB2:=H_ (HB1.out.trans (hb2.mono (by omega)))
  have HW2:=H_ hw2
  rw [←hw2] at H0
  clear heq hw2 hb2
  go_wp2_with (at_builtin;go_loud (rw [←HW2.out];refine wpList_app_sl rfl _ _ 22 rfl 3 (.int .i64 0) 1 8 Tryz.underlying22 info_int rfl (by decide) (by decide) rfl H0.out rfl HY2.out (ints_one _) ?c1 ?c2 ?_))
  case c1=>omega
  case c2=>omega
  intro v3 w3 ho3 _ hout3 _
  have HR:=H_ (show Below w.heap.size w w3∧OwnI w.heap.size w3.heap.size 3 w3 v3 (behV xs ys) from ⟨Below.outside HB2.out hout3 (by omega) (by omega),by
   rw [HE.out]
   exact (OwnI.len (xs:=ys) (by simpa [ints] using ho3) (by simp)).lower (by omega) (le_ _)⟩)
  clear ho3 hout3
  go_wp2
  go_ret
  exact RetV.mk _ rfl HR.out
def SPartsC (t:KT):Prop:=∀ (lo hi:Nat) (v:Value) (w:World) (α:Nat) (c:Int),SlI lo hi w v t.post→t.ok 0=true→t.size≤1700→α<4→16≤c→c≤18→hi≤w.heap.size →
 Calls Tryz.prog 160 #[v,.int .i64 α,.int .i64 c] w (RetV fun v w'=>NewL w.heap.size w' v (partsV t α c)∧Below w.heap.size w w')
theorem parts_big {t:KT} (ht:t.ok 0=true) (hs:t.size≤1700) {α:Nat} {c:Int} (hc:16≤c):(∀ x∈partsV t α c,x.length≤2900000)∧(partsV t α c).length≤1700:=
 ⟨fun x hx=>Nat.le_trans (partsV_short ht hc hx) (Nat.le_trans (Nat.mul_le_mul hs (show t.size+1≤1701 by omega)) (by decide)),Nat.le_trans (partsV_len ht hc) hs⟩
theorem addsL_take {l ts:List (List Int)} {k:Nat} (hk:k<ts.length):addsL l (ts.take (k+1))=addL ts[k] (addsL l (ts.take k)):=by rw [List.take_succ_eq_append_getElem hk,addsL_snoc]
theorem addsL_few {l ts:List (List Int)} (k:Nat) (h1:l.length≤5000) (h2:ts.length≤5000):(addsL l (ts.take k)).length≤100000:=by
 have h:=addsL_len (ts.take k) l
 have h3:(ts.take k).length≤ts.length:=by rw [List.length_take];omega
 omega
theorem addsL_bound {l ts:List (List Int)} {n:Nat} (k:Nat) (h1:∀ x∈l,x.length≤n) (h2:∀ x∈ts,x.length≤n):∀ x∈addsL l (ts.take k),x.length≤n:=by
 intro x hx
 rcases addsL_mem.1 hx with hx|hx
 ·exact h1 x hx
 ·exact h2 x (List.mem_of_mem_take hx)
theorem newL_zero (lo:Nat) (w:World) (hl:lo≤w.heap.size):NewL lo (w.alloc (.cells #[] 22)) (.slice (some ⟨w.heap.size,0,none⟩) 0 0) []:=⟨_,0,[],rfl,by rw [alloc_size];exact LLs.zero lo w hl⟩
theorem sparts_leaf (n:Int):SPartsC (.leaf n):=by
 intro lo hi v w α c hx hok hs hα hc1 hc2 hh
 simp only [KT.ok,Bool.and_eq_true,decide_eq_true_eq] at hok
 obtain ⟨hn0,hn18⟩:=hok
 obtain ⟨a,cap,rfl,_,_⟩:=Sl.shape hx
 obtain ⟨b,off,rfl,hb1,hb2,hb3,hcell⟩:=hx.get 0 (by simp [KT.post])
 have hc1:w.cell? ⟨b,off,none⟩=some (.int .i64 n):=hcell
 have hlen:(KT.leaf n).post.length=1:=rfl
 rw [hlen]
 clear hx hlen hcell
 have HZ:=H_ (newL_zero w.heap.size w (le_ _))
 have HB0:=H_ (al_below w (.cells #[] 22))
 by_cases he:n=c
 ·have hd:(n==c)=true:=by simp [he]
  have HE:=H_ (show partsV (.leaf n) α c=[[15]] by unfold partsV;rw [if_pos he])
  obtain ⟨w1,hw1⟩:∃ w1,w1=(w.alloc (.cells #[] 22)).alloc (.cells #[.int .i64 15] 3):=⟨_,rfl⟩
  have hs1:w1.heap.size=w.heap.size+2:=by rw [hw1];simp
  have hb1:Below w.heap.size w w1:=by rw [hw1];exact (al_below _ _).trans ((al_below _ _).mono (by simp))
  have HL1:Hid (LLs w.heap.size w1.heap.size w1 (.slice (some ⟨w.heap.size,0,none⟩) 0 0) [] []):=H_ (by
   have h:=(LLs.zero w.heap.size w (le_ _)).below (al_below (w.alloc (.cells #[] 22)) (.cells #[.int .i64 15] 3)) (by rw [alloc_size];exact le_ _)
   rw [←hw1] at h
   exact h.lower (le_ _) (by omega))
  have HO1:Hid (OwnI w.heap.size w1.heap.size 3 w1 (.slice (some ⟨w.heap.size+1,0,none⟩) 1 1) [15]):=H_ (by
   have h:=Own.lit 1 3 (w.alloc (.cells #[] 22)) (ints [15]) 1 (by omega) rfl
   rw [alloc_size] at h
   rw [hs1,hw1]
   exact (OwnI.len h rfl).lower (by omega) (by omega))
  have HB1:=H_ hb1
  have HW1:=H_ hw1
  have HS1:=H_ hs1
  clear hw1 hb1 he hs1
  go_enter Tryz.func160,Tryz.ntmps160
  go_wp2_with (at_builtin;go_loud (refine wpList_app_lit_at w1 rfl _ _ 119 rfl 22 (.slice none 0 0) 1 24 Tryz.underlying119 info_ints rfl (by decide) (by decide) rfl HL1.out.1 1 [.slice (some ⟨w.heap.size+1,0,none⟩) 1 1] (by rw [HS1.out];rfl) rfl (by intro u hu;simp only [List.mem_singleton] at hu;subst hu;rfl) (by rw [HW1.out]) ?c1 ?c2 ?_))
  case c1=>simp
  case c2=>rw [HS1.out];omega
  intro v2 w2 ho2 hg2 hl2 _
  rw [←HW1.out] at hg2
  have HJ:=H_ (LLs.lit HL1.out HO1.out ho2 hg2)
  have HNZ:=H_ hl2
  obtain ⟨a2,c2,rfl⟩:=Own.shape ho2
  have hsz2:=HJ.out.2.size
  have hs1':=HS1.out
  obtain ⟨g2,rfl⟩:∃ g,a2=some ⟨g,0,none⟩:=by
   rcases HJ.out.1.1.1.2 with ⟨e,h0⟩|⟨g,cap',cur,e,_⟩
   ·exact absurd h0 (by simp)
   ·injection e with e;exact ⟨g,e⟩
  have HR:=H_ (show NewL w.heap.size w2 (.slice (some ⟨g2,0,none⟩) 1 c2) (partsV (.leaf n) α c)∧Below w.heap.size w w2 from ⟨⟨g2,c2,_,rfl,by rw [HE.out];exact HJ.out.1⟩,Below.outside HB1.out HJ.out.2 (le_ _) (by omega)⟩)
  clear ho2 hg2 hl2
  go_wp2
  go_ret
  exact RetV.mk _ rfl HR.out
 ·have hd:(n==c)=false:=by simp [he]
  have HE:=H_ (show partsV (.leaf n) α c=[] by unfold partsV;rw [if_neg he])
  clear he
  go_enter Tryz.func160,Tryz.ntmps160
  go_wp2
  go_ret
  exact RetV.mk _ rfl ⟨by rw [HE.out];exact HZ.out,HB0.out⟩
theorem sparts_or {x y:KT} (ihx:SPartsC x) (ihy:SPartsC y):SPartsC (.bin true x y):=by
 intro lo hi v w α c hx hok hs hα hc1 hc2 hh
 simp only [KT.ok,Bool.and_eq_true] at hok
 obtain ⟨hokx,hoky⟩:=hok
 simp only [KT.size] at hs
 have hlen:(KT.bin true x y).post.length=x.size+y.size+1:=by rw [KT.post_length];rfl
 have HALF:=H_ (show ∀ w1,Below w.heap.size w w1→Calls Tryz.prog 156 #[v] w1 (RetH fun a b w2=>Below w1.heap.size w1 w2∧SlI lo hi w2 a x.post∧SlI lo hi w2 b y.post) from fun w1 hb1=>
  (l2Halves_any lo hi v 0 true x y w1 (hx.below hb1 hh) (by omega) hoky).mono (by rintro e w2 ⟨va,vb,rfl,⟨m,rfl⟩,ha,hb⟩;exact ⟨va,vb,rfl,below_drewN (B_ _ _) m,ha,hb⟩))
 obtain ⟨a,cap,rfl,_,hcm⟩:=Sl.shape hx
 obtain ⟨b,off,rfl⟩:=hx.notNil (by omega)
 obtain ⟨b',off',e,_,_,hbl,hc⟩:=hx.get (x.size+y.size) (by omega)
 injection e with e
 injection e with e1 e2
 subst e1 e2
 have hc0:w.cell? ⟨b,off+(x.size+y.size),none⟩=some (.int .i64 20):=by
  rw [hc]
  simp [KT.post,←KT.post_length,KT.op]
 rw [hlen] at HALF ⊢
 have IHX:=H_ ihx
 have IHY:=H_ ihy
 obtain ⟨bgx,lnx⟩:=parts_big hokx (by omega) (α:=α) hc1
 obtain ⟨bgy,lny⟩:=parts_big hoky (by omega) (α:=α) hc1
 have HBX:=H_ bgx
 have HBY:=H_ bgy
 have HPV:=H_ (partsV_or x y α c)
 obtain ⟨pa,hpa⟩:∃ p,p=partsV x α c:=⟨_,rfl⟩
 obtain ⟨pb,hpb⟩:∃ p,p=partsV y α c:=⟨_,rfl⟩
 have HPA:=H_ hpa
 have HPB:=H_ hpb
 rw [←hpa] at lnx HBX HPV
 rw [←hpb] at lny HBY HPV
 obtain ⟨w0,hw0⟩:∃ w0,w0=w.alloc (.cells #[] 22):=⟨_,rfl⟩
 have hb0:Below w.heap.size w w0:=by rw [hw0];exact al_below _ _
 have hs0:w0.heap.size=w.heap.size+1:=by rw [hw0];simp
 have HZ:=H_ (show NewL w.heap.size w0 (.slice (some ⟨w.heap.size,0,none⟩) 0 0) [] by rw [hw0];exact newL_zero w.heap.size w (le_ _))
 have HB0:=H_ hb0
 have hcd:(w.alloc (.cells #[] 22)).cell? ⟨b,off+(x.size+y.size),none⟩=some (.int .i64 20):=by rw [←hw0];exact (hb0.cell (p:=⟨b,off+(x.size+y.size),none⟩) hbl).trans hc0
 have HW0:=H_ hw0
 clear ihx ihy hx hcm hc bgx bgy hpa hpb hw0 hb0
 go_enter Tryz.func160,Tryz.ntmps160
 go_wp2_with (rw [←HW0.out])
 refine (HALF.out w0 HB0.out).mono ?_
 rintro e w1 ⟨va,vb,rfl,h_,ha,hb⟩
 have hs1:=h_.size
 have HB1:=H_ (HB0.out.trans (h_.mono (by omega)))
 have HZ1:=H_ (HZ.out.go h_)
 have HVA:=H_ ha
 have HVB:=H_ hb
 obtain ⟨aa,ac,rfl,_,_⟩:=Sl.shape ha
 obtain ⟨ba,bc,rfl,_,_⟩:=Sl.shape hb
 clear h_ ha hb HALF hc0 hcd HW0
 go_wp2_with fail
 refine (IHX.out lo hi _ w1 α c HVA.out hokx (by omega) hα hc1 hc2 (by omega)).mono ?_
 rintro e w2 ⟨v2,rfl,h2,hb2⟩
 rw [←HPA.out] at h2
 have hs2:=hb2.size
 have HB2:=H_ (HB1.out.trans (hb2.mono (by omega)))
 have HZ2:=H_ (HZ1.out.go hb2)
 have HVB2:=H_ (HVB.out.below hb2 (by omega))
 have H2:=H_ (h2.low (show w.heap.size≤w1.heap.size by omega))
 obtain ⟨g2,c2,rfl⟩:=h2.shape
 clear h2 hb2 HVA HZ1
 go_wp2_with fail
 refine (IHY.out lo hi _ w2 α c HVB2.out hoky (by omega) hα hc1 hc2 (by omega)).mono ?_
 rintro e w3 ⟨v3,rfl,h3,hb3⟩
 rw [←HPB.out] at h3
 have hs3:=hb3.size
 have HB3:=H_ (HB2.out.trans (hb3.mono (by omega)))
 have H23:=H_ (H2.out.go hb3)
 have H3:=H_ (h3.low (show w.heap.size≤w2.heap.size by omega))
 obtain ⟨g3,c3,rfl⟩:=h3.shape
 clear h3 hb3
 go_wp2
 go_loopw [9,13] (fun o i wr=>∃ k:Nat,k≤pb.length∧i=.int .i64 k∧Hid (NewL w.heap.size wr o (addsL pa (pb.take k)))∧Hid (Below w.heap.size w wr∧Below w3.heap.size w3 wr)) (fun _ i _=>pb.length-(intOf i).toNat)
 case atStart=>exact ⟨0,by omega,rfl,H23,H_ ⟨HB3.out,B_ _ _⟩⟩
 case round=>
  rename World=>wr
  obtain ⟨k,hk,rfl,HQ,HB⟩:=hrel
  obtain ⟨g4,n4,c4,rfl⟩:=HQ.out.shapeN
  have hszr:=HB.out.1.size
  by_cases hlt:k<pb.length
  ·obtain ⟨u,hg,hcu,hu⟩:=(H3.out.go HB.out.2).at k hlt
   have HU:=H_ hu
   obtain ⟨ua,uc,rfl⟩:=Own.shape hu
   have HNX:=H_ (addsL_take (l:=pa) hlt)
   clear hu
   go_wp2_with fail
   refine (l3AddN _ _ _ _ pb[k] wr HQ.out HU.out hszr (addsL_few k (by omega) (by omega)) (fun z hz=>by have:=addsL_bound k HBX.out HBY.out z hz;omega) (by have:=HBY.out _ (List.getElem_mem hlt);omega)).mono ?_
   rintro e w5 ⟨v5,rfl,h5,hb5⟩
   rw [←HNX.out] at h5
   have H5:=H_ h5
   have HB5:=H_ (show Below w.heap.size w w5∧Below w3.heap.size w3 w5 from ⟨HB.out.1.trans (hb5.mono hszr),HB.out.2.trans (hb5.mono HB.out.2.size)⟩)
   clear h5 hb5
   go_wp2
   go_roundw
   case rel=>exact ⟨k+1,by omega,by go_num,H5,HB5⟩
   case measure=>simp [intOf];omega
  ·obtain rfl:k=pb.length:=by omega
   have HR:=H_ (show NewL w.heap.size wr (.slice (some ⟨g4,0,none⟩) n4 c4) (partsV (.bin true x y) α c) from by
    have h:=HQ.out
    rw [List.take_length] at h
    rw [HPV.out]
    exact h)
   go_wp2
   go_ret
   exact RetV.mk _ rfl ⟨HR.out,HB.out.1⟩
theorem sparts_seq {x y:KT} (ihx:SPartsC x) (ihy:SPartsC y):SPartsC (.bin false x y):=by
 intro lo hi v w α c hx hok hs hα hc1 hc2 hh
 simp only [KT.ok,Bool.and_eq_true] at hok
 obtain ⟨hokx,hoky⟩:=hok
 simp only [KT.size] at hs
 have hlen:(KT.bin false x y).post.length=x.size+y.size+1:=by rw [KT.post_length];rfl
 have HALF:=H_ (show ∀ w1,Below w.heap.size w w1→Calls Tryz.prog 156 #[v] w1 (RetH fun a b w2=>Below w1.heap.size w1 w2∧SlI lo hi w2 a x.post∧SlI lo hi w2 b y.post) from fun w1 hb1=>
  (l2Halves_any lo hi v 0 false x y w1 (hx.below hb1 hh) (by omega) hoky).mono (by rintro e w2 ⟨va,vb,rfl,⟨m,rfl⟩,ha,hb⟩;exact ⟨va,vb,rfl,below_drewN (B_ _ _) m,ha,hb⟩))
 obtain ⟨a,cap,rfl,_,hcm⟩:=Sl.shape hx
 obtain ⟨b,off,rfl⟩:=hx.notNil (by omega)
 obtain ⟨b',off',e,_,_,hbl,hc⟩:=hx.get (x.size+y.size) (by omega)
 injection e with e
 injection e with e1 e2
 subst e1 e2
 have hc0:w.cell? ⟨b,off+(x.size+y.size),none⟩=some (.int .i64 19):=by
  rw [hc]
  simp [KT.post,←KT.post_length,KT.op]
 rw [hlen] at HALF ⊢
 have IHX:=H_ ihx
 have IHY:=H_ ihy
 obtain ⟨bgx,lnx⟩:=parts_big hokx (by omega) (α:=α) hc1
 obtain ⟨bgy,lny⟩:=parts_big hoky (by omega) (α:=α) hc1
 have HBX:=H_ bgx
 have HBY:=H_ bgy
 have HPV:=H_ (partsV_seq x y α c)
 have HMB:Hid (∀ z∈(partsV x α c).map fun q=>behV q y.post,z.length≤2910000):=H_ (by
  intro z hz
  obtain ⟨q,hq,rfl⟩:=List.mem_map.1 hz
  have:=bgx q hq
  have hyl:=y.post_length
  unfold behV
  split
  ·omega
  ·simp;omega)
 have HOL:Hid ((ordL ((partsV x α c).map fun q=>behV q y.post)).length≤5000):=H_ (by
  have h:=addsL_len ((partsV x α c).map fun q=>behV q y.post) []
  rw [List.length_map] at h
  show (addsL [] _).length≤5000
  simp only [List.length_nil] at h
  omega)
 have HOB:Hid (∀ z∈ordL ((partsV x α c).map fun q=>behV q y.post),z.length≤2910000):=H_ (fun z hz=>HMB.out z (ordL_mem.1 hz))
 obtain ⟨pa,hpa⟩:∃ p,p=partsV x α c:=⟨_,rfl⟩
 obtain ⟨pb,hpb⟩:∃ p,p=partsV y α c:=⟨_,rfl⟩
 have HPA:=H_ hpa
 have HPB:=H_ hpb
 rw [←hpa] at lnx HBX HPV HMB HOL HOB
 rw [←hpb] at lny HBY HPV
 obtain ⟨w0,hw0⟩:∃ w0,w0=w.alloc (.cells #[] 22):=⟨_,rfl⟩
 have hb0:Below w.heap.size w w0:=by rw [hw0];exact al_below _ _
 have hs0:w0.heap.size=w.heap.size+1:=by rw [hw0];simp
 have HZ:=H_ (show NewL w.heap.size w0 (.slice (some ⟨w.heap.size,0,none⟩) 0 0) [] by rw [hw0];exact newL_zero w.heap.size w (le_ _))
 have HB0:=H_ hb0
 have hcd:(w.alloc (.cells #[] 22)).cell? ⟨b,off+(x.size+y.size),none⟩=some (.int .i64 19):=by rw [←hw0];exact (hb0.cell (p:=⟨b,off+(x.size+y.size),none⟩) hbl).trans hc0
 have HW0:=H_ hw0
 clear ihx ihy hx hcm hc bgx bgy hpa hpb hw0 hb0
 go_enter Tryz.func160,Tryz.ntmps160
 go_wp2_with (rw [←HW0.out])
 refine (HALF.out w0 HB0.out).mono ?_
 rintro e w1 ⟨va,vb,rfl,h_,ha,hb⟩
 have hs1:=h_.size
 have HB1:=H_ (HB0.out.trans (h_.mono (by omega)))
 have HZ1:=H_ (HZ.out.go h_)
 have HVA:=H_ ha
 have HVB:=H_ hb
 obtain ⟨aa,ac,rfl,_,_⟩:=Sl.shape ha
 obtain ⟨ba,bc,rfl,_,_⟩:=Sl.shape hb
 clear h_ ha hb HALF hc0 hcd HW0
 go_wp2_with fail
 refine (IHX.out lo hi _ w1 α c HVA.out hokx (by omega) hα hc1 hc2 (by omega)).mono ?_
 rintro e w2 ⟨v2,rfl,h2,hb2⟩
 rw [←HPA.out] at h2
 have hs2:=hb2.size
 have HB2:=H_ (HB1.out.trans (hb2.mono (by omega)))
 have HZ2:=H_ (HZ1.out.go hb2)
 have HVB2:=H_ (HVB.out.below hb2 (by omega))
 have HVA2:=H_ (HVA.out.below hb2 (by omega))
 have H2:=H_ (h2.low (show w.heap.size≤w1.heap.size by omega))
 obtain ⟨g2,c2,rfl⟩:=h2.shape
 clear h2 hb2 HVA HZ1
 go_wp2
 go_loopw [9,17] (fun o i wr=>∃ k:Nat,k≤pa.length∧i=.int .i64 k∧Hid (NewL w.heap.size wr o (addsL [] ((pa.map fun q=>behV q y.post).take k)))∧Hid (Below w.heap.size w wr∧Below w2.heap.size w2 wr)) (fun _ i _=>pa.length-(intOf i).toNat)
 case atStart=>exact ⟨0,by omega,rfl,HZ2,H_ ⟨HB2.out,B_ _ _⟩⟩
 case round=>
  rename World=>wr
  obtain ⟨k,hk,rfl,HQ,HB⟩:=hrel
  obtain ⟨g4,n4,c4,rfl⟩:=HQ.out.shapeN
  have hszr:=HB.out.1.size
  have hszr2:=HB.out.2.size
  by_cases hlt:k<pa.length
  ·obtain ⟨u,hg,hcu,hu⟩:=(H2.out.go HB.out.2).at k hlt
   have HU:=H_ hu
   obtain ⟨ua,uc,rfl⟩:=Own.shape hu
   have hltm:k<(pa.map fun q=>behV q y.post).length:=by rw [List.length_map];exact hlt
   have HNX:=H_ (addsL_take (l:=[]) hltm)
   rw [List.getElem_map] at HNX
   have hbk:=HBX.out _ (List.getElem_mem hlt)
   have HPY:=H_ y.post_length
   have hylen:y.post.length≤1700:=by rw [HPY.out];omega
   clear hu
   go_wp2_with fail
   refine (l4Behind_any _ _ _ _ _ _ pa[k] y.post wr HU.out.sl (HVB2.out.below HB.out.2 (by omega)) (le_ _) (by omega) (by omega)).mono ?_
   rintro e w4 ⟨v4,rfl,hb4,ho4⟩
   have hs4:=hb4.size
   have HO4:=H_ (ho4.lower hszr (le_ _))
   have HQ4:=H_ (HQ.out.go hb4)
   have HB4:=H_ (show Below w.heap.size w w4∧Below w2.heap.size w2 w4 from ⟨HB.out.1.trans (hb4.mono hszr),HB.out.2.trans (hb4.mono hszr2)⟩)
   obtain ⟨za,zc,rfl⟩:=Own.shape ho4
   clear hb4 ho4
   go_wp2_with fail
   refine (l3AddN _ _ _ _ (behV pa[k] y.post) w4 HQ4.out HO4.out (by omega) (addsL_few k (by simp) (by rw [List.length_map];omega)) (fun z hz=>by have:=addsL_bound k (n:=2910000) (l:=[]) (by simp) HMB.out z hz;omega) (by have:=HMB.out _ (List.mem_map.2 ⟨_,List.getElem_mem hlt,rfl⟩);omega)).mono ?_
   rintro e w5 ⟨v5,rfl,h5,hb5⟩
   rw [←HNX.out] at h5
   have H5:=H_ h5
   have HB5:=H_ (show Below w.heap.size w w5∧Below w2.heap.size w2 w5 from ⟨HB4.out.1.trans (hb5.mono (by omega)),HB4.out.2.trans (hb5.mono (by omega))⟩)
   clear h5 hb5
   go_wp2
   go_roundw
   case rel=>exact ⟨k+1,by omega,by go_num,H5,HB5⟩
   case measure=>simp [intOf];omega
  ·obtain rfl:k=pa.length:=by omega
   have HQ':=H_ (show NewL w.heap.size wr (.slice (some ⟨g4,0,none⟩) n4 c4) (ordL (pa.map fun q=>behV q y.post)) from by
    have h:=HQ.out
    have e:(pa.map fun q=>behV q y.post).take pa.length=pa.map fun q=>behV q y.post:=List.take_of_length_le (by simp)
    rw [e] at h
    exact h)
   clear HQ
   go_wp2_with fail
   refine (IHY.out lo hi _ wr α c (HVB2.out.below HB.out.2 (by omega)) hoky (by omega) hα hc1 hc2 (by omega)).mono ?_
   rintro e w3 ⟨v3,rfl,h3,hb3⟩
   rw [←HPB.out] at h3
   have hs3:=hb3.size
   have HB3:=H_ (show Below w.heap.size w w3∧Below w2.heap.size w2 w3 from ⟨HB.out.1.trans (hb3.mono hszr),HB.out.2.trans (hb3.mono hszr2)⟩)
   have H23:=H_ (HQ'.out.go hb3)
   have H3:=H_ (h3.low hszr)
   obtain ⟨g3,c3,rfl⟩:=h3.shape
   clear h3 hb3 HQ'
   go_wp2
   go_loopw [9,19] (fun o i wx=>∃ k:Nat,k≤pb.length∧i=.int .i64 k∧Hid (NewL w.heap.size wx o (addsL (ordL (pa.map fun q=>behV q y.post)) ((if (endsK x).testBit α then pb else []).take k)))∧Hid (Below w.heap.size w wx∧Below w3.heap.size w3 wx)) (fun _ i _=>pb.length-(intOf i).toNat)
   case atStart=>exact ⟨0,by omega,rfl,H_ (by obtain ⟨g,cc,e⟩:=H23.out.shape;exact H23.out),H_ ⟨HB3.out.1,B_ _ _⟩⟩
   case round=>
    rename World=>wx
    obtain ⟨k,hk,rfl,HQ,HBx⟩:=hrel
    obtain ⟨g5,n5,c5,rfl⟩:=HQ.out.shapeN
    have hszx:=HBx.out.1.size
    have hszx2:=HBx.out.2.size
    by_cases hlt:k<pb.length
    ·obtain ⟨u,hg,hcu,hu⟩:=(H3.out.go HBx.out.2).at k hlt
     have HU:=H_ hu
     obtain ⟨ua,uc,rfl⟩:=Own.shape hu
     have HVX:=H_ (HVA2.out.below (HB3.out.2.trans (HBx.out.2.mono (by omega))) (by omega))
     clear hu
     go_wp2_with fail
     refine (l4Ends_any x lo hi _ wx HVX.out hokx (by omega) (by omega)).mono ?_
     rintro e w6 ⟨rfl,hb6⟩
     have hs6:=hb6.size
     have HB6:=H_ (show Below w.heap.size w w6∧Below w3.heap.size w3 w6 from ⟨HBx.out.1.trans (hb6.mono hszx),HBx.out.2.trans (hb6.mono hszx2)⟩)
     have HQ6:=H_ (HQ.out.go hb6)
     have HU6:=H_ ((HU.out.below hb6 (le_ _)).lower (le_ _) hs6)
     have hcu6:w6.cell? ⟨g3,k,none⟩=some (.slice ua pb[k].length uc):=(hb6.cell (p:=⟨g3,k,none⟩) hg).trans hcu
     have hek:=ends_le hokx
     clear hb6 hcu HQ
     go_wp2_with fail
     refine (l1BitG (endsK x) α (by omega) (by omega) w6).mono ?_
     rintro e _ ⟨rfl,rfl⟩
     cases hbit:(endsK x).testBit α
     ·have hbi:bitI (endsK x) α=0:=by simp [bitI,hbit]
      rw [hbi]
      have HR:=H_ (show NewL w.heap.size w6 (.slice (some ⟨g5,0,none⟩) n5 c5) (partsV (.bin false x y) α c) from by
       have h:=HQ6.out
       rw [HPV.out]
       rw [hbit] at h ⊢
       simpa [addsL_nil] using h)
      clear hbit hbi
      go_wp2
      go_ret
      exact RetV.mk _ rfl ⟨HR.out,HB6.out.1⟩
     ·have hbi:bitI (endsK x) α=1:=by simp [bitI,hbit]
      rw [hbi]
      have HIF:=H_ (show (if (endsK x).testBit α then pb else [])=pb by rw [hbit,if_pos rfl])
      have HNX:=H_ (addsL_take (l:=ordL (pa.map fun q=>behV q y.post)) hlt)
      have HQ7:=H_ (show NewL w.heap.size w6 (.slice (some ⟨g5,0,none⟩) n5 c5) (addsL (ordL (pa.map fun q=>behV q y.post)) (pb.take k)) from by
       have h:=HQ6.out
       rw [HIF.out] at h
       exact h)
      clear hbit hbi HQ6
      go_wp2_with fail
      refine (l3AddN _ _ _ _ pb[k] w6 HQ7.out HU6.out (by omega) (addsL_few k HOL.out (by omega)) (fun z hz=>by have:=addsL_bound k (n:=2910000) HOB.out (fun z hz=>by have:=HBY.out z hz;omega) z hz;omega) (by have:=HBY.out _ (List.getElem_mem hlt);omega)).mono ?_
      rintro e w7 ⟨v7,rfl,h7,hb7⟩
      rw [←HNX.out] at h7
      have H7:=H_ (show NewL w.heap.size w7 v7 (addsL (ordL (pa.map fun q=>behV q y.post)) ((if (endsK x).testBit α then pb else []).take (k+1))) from by rw [HIF.out];exact h7)
      have HB7:=H_ (show Below w.heap.size w w7∧Below w3.heap.size w3 w7 from ⟨HB6.out.1.trans (hb7.mono (by omega)),HB6.out.2.trans (hb7.mono (by omega))⟩)
      clear h7 hb7
      go_wp2
      go_roundw
      case rel=>exact ⟨k+1,by omega,by go_num,H7,HB7⟩
      case measure=>simp [intOf];omega
    ·obtain rfl:k=pb.length:=by omega
     have HR:=H_ (show NewL w.heap.size wx (.slice (some ⟨g5,0,none⟩) n5 c5) (partsV (.bin false x y) α c) from by
      have h:=HQ.out
      have e:(if (endsK x).testBit α then pb else []).take pb.length=if (endsK x).testBit α then pb else []:=List.take_of_length_le (by split<;>simp)
      rw [e] at h
      rw [HPV.out]
      exact h)
     go_wp2
     go_ret
     exact RetV.mk _ rfl ⟨HR.out,HBx.out.1⟩
theorem sparts_star {x:KT} (ihx:SPartsC x):SPartsC (.star x):=by
 intro lo hi v w α c hx hok hs hα hc1 hc2 hh
 have hokx:x.ok 0=true:=hok
 simp only [KT.size] at hs
 have hlen:(KT.star x).post.length=x.size+1:=by rw [KT.post_length];rfl
 obtain ⟨a,cap,rfl,hcc,hcm⟩:=Sl.shape hx
 obtain ⟨b,off,rfl⟩:=hx.notNil (by omega)
 obtain ⟨b',off',e,_,_,hbl,hc⟩:=hx.get x.size (by omega)
 injection e with e
 injection e with e1 e2
 subst e1 e2
 have hc0:w.cell? ⟨b,off+x.size,none⟩=some (.int .i64 21):=by
  rw [hc]
  simp [KT.post,←KT.post_length]
 have HSX:Hid (SlI lo hi w (.slice (some ⟨b,off,none⟩) x.size cap) x.post):=H_ (by
  have h2:=hx.sub 0 x.size (Nat.zero_le _) (by omega)
  simpa [KT.post,←KT.post_length] using h2)
 have HX:=H_ hx
 have hpl:(KT.star x).post.length≤1700:=by omega
 rw [hlen] at hcc HX ⊢
 have e4:x.size≤cap:=by omega
 have IHX:=H_ ihx
 obtain ⟨bgx,lnx⟩:=parts_big hokx (by omega) (α:=α) hc1
 have HBX:=H_ bgx
 have HPV:=H_ (partsV_star x α c)
 have HMB:Hid (∀ z∈(partsV x α c).map fun q=>behV q (KT.star x).post,z.length≤2910000):=H_ (by
  intro z hz
  obtain ⟨q,hq,rfl⟩:=List.mem_map.1 hz
  have:=bgx q hq
  unfold behV
  split
  ·omega
  ·simp only [List.length_append,List.length_singleton];omega)
 obtain ⟨pa,hpa⟩:∃ p,p=partsV x α c:=⟨_,rfl⟩
 have HPA:=H_ hpa
 rw [←hpa] at lnx HBX HPV HMB
 obtain ⟨w0,hw0⟩:∃ w0,w0=w.alloc (.cells #[] 22):=⟨_,rfl⟩
 have hb0:Below w.heap.size w w0:=by rw [hw0];exact al_below _ _
 have hs0:w0.heap.size=w.heap.size+1:=by rw [hw0];simp
 have HZ:=H_ (show NewL w.heap.size w0 (.slice (some ⟨w.heap.size,0,none⟩) 0 0) [] by rw [hw0];exact newL_zero w.heap.size w (le_ _))
 have HB0:=H_ hb0
 have HSX0:=H_ (HSX.out.below hb0 hh)
 have hcd:(w.alloc (.cells #[] 22)).cell? ⟨b,off+x.size,none⟩=some (.int .i64 21):=by rw [←hw0];exact (hb0.cell (p:=⟨b,off+x.size,none⟩) hbl).trans hc0
 have HW0:=H_ hw0
 have HPL:=H_ hlen
 unfold maxLen at hcm
 clear ihx hx hc bgx hpa hw0 hb0 hlen
 go_enter Tryz.func160,Tryz.ntmps160
 go_wp2_with (rw [←HW0.out])
 refine (IHX.out lo hi _ w0 α c HSX0.out hokx (by omega) hα hc1 hc2 (by omega)).mono ?_
 rintro e w2 ⟨v2,rfl,h2,hb2⟩
 rw [←HPA.out] at h2
 have hs2:=hb2.size
 have HB2:=H_ (HB0.out.trans (hb2.mono (by omega)))
 have HZ2:=H_ (HZ.out.go hb2)
 have H2:=H_ (h2.low (show w.heap.size≤w0.heap.size by omega))
 obtain ⟨g2,c2,rfl⟩:=h2.shape
 clear h2 hb2 HZ hc0 hcd HW0
 go_wp2
 go_loopw [9,21] (fun o i wr=>∃ k:Nat,k≤pa.length∧i=.int .i64 k∧Hid (NewL w.heap.size wr o (addsL [] ((pa.map fun q=>behV q (KT.star x).post).take k)))∧Hid (Below w.heap.size w wr∧Below w2.heap.size w2 wr)) (fun _ i _=>pa.length-(intOf i).toNat)
 case atStart=>exact ⟨0,by omega,rfl,HZ2,H_ ⟨HB2.out,B_ _ _⟩⟩
 case round=>
  rename World=>wr
  obtain ⟨k,hk,rfl,HQ,HB⟩:=hrel
  obtain ⟨g4,n4,c4,rfl⟩:=HQ.out.shapeN
  have hszr:=HB.out.1.size
  have hszr2:=HB.out.2.size
  by_cases hlt:k<pa.length
  ·obtain ⟨u,hg,hcu,hu⟩:=(H2.out.go HB.out.2).at k hlt
   have HU:=H_ hu
   obtain ⟨ua,uc,rfl⟩:=Own.shape hu
   have hltm:k<(pa.map fun q=>behV q (KT.star x).post).length:=by rw [List.length_map];exact hlt
   have HNX:=H_ (addsL_take (l:=[]) hltm)
   rw [List.getElem_map] at HNX
   have hbk:=HBX.out _ (List.getElem_mem hlt)
   clear hu
   go_wp2_with fail
   refine (l4Behind_any _ _ _ _ _ _ pa[k] (KT.star x).post wr HU.out.sl (HX.out.below HB.out.1 hh) (le_ _) (by omega) (by omega)).mono ?_
   rintro e w4 ⟨v4,rfl,hb4,ho4⟩
   have hs4:=hb4.size
   have HO4:=H_ (ho4.lower hszr (le_ _))
   have HQ4:=H_ (HQ.out.go hb4)
   have HB4:=H_ (show Below w.heap.size w w4∧Below w2.heap.size w2 w4 from ⟨HB.out.1.trans (hb4.mono hszr),HB.out.2.trans (hb4.mono hszr2)⟩)
   obtain ⟨za,zc,rfl⟩:=Own.shape ho4
   clear hb4 ho4
   go_wp2_with fail
   refine (l3AddN _ _ _ _ (behV pa[k] (KT.star x).post) w4 HQ4.out HO4.out (by omega) (addsL_few k (by simp) (by rw [List.length_map];omega)) (fun z hz=>by have:=addsL_bound k (n:=2910000) (l:=[]) (by simp) HMB.out z hz;omega) (by have:=HMB.out _ (List.mem_map.2 ⟨_,List.getElem_mem hlt,rfl⟩);omega)).mono ?_
   rintro e w5 ⟨v5,rfl,h5,hb5⟩
   rw [←HNX.out] at h5
   have H5:=H_ h5
   have HB5:=H_ (show Below w.heap.size w w5∧Below w2.heap.size w2 w5 from ⟨HB4.out.1.trans (hb5.mono (by omega)),HB4.out.2.trans (hb5.mono (by omega))⟩)
   clear h5 hb5
   go_wp2
   go_roundw
   case rel=>exact ⟨k+1,by omega,by go_num,H5,HB5⟩
   case measure=>simp [intOf];omega
  ·obtain rfl:k=pa.length:=by omega
   have HR:=H_ (show NewL w.heap.size wr (.slice (some ⟨g4,0,none⟩) n4 c4) (partsV (.star x) α c) from by
    have h:=HQ.out
    have e:(pa.map fun q=>behV q (KT.star x).post).take pa.length=pa.map fun q=>behV q (KT.star x).post:=List.take_of_length_le (by simp)
    rw [e] at h
    rw [HPV.out]
    exact h)
   go_wp2
   go_ret
   exact RetV.mk _ rfl ⟨HR.out,HB.out.1⟩
theorem l4Parts_any:∀ t:KT,SPartsC t
 | .leaf n=>sparts_leaf n
 | .bin true a b=>sparts_or (l4Parts_any a) (l4Parts_any b)
 | .bin false a b=>sparts_seq (l4Parts_any a) (l4Parts_any b)
 | .star a=>sparts_star (l4Parts_any a)
end Go.Proofs.YtfnnhimopokpnaaGreatDoor
