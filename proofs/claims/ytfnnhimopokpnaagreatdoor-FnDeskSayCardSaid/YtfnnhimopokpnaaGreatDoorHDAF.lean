/- Lemmas for this seat; no condition. -/
import Derived.Test.YtfnnhimopokpnaaGreatDoorHDAE
namespace Go.Proofs.YtfnnhimopokpnaaGreatDoor
open Go.RowKit Proofs.Tryz
set_option maxRecDepth 100000
set_option maxHeartbeats 0
set_option linter.all false
variable {lo hi n cap off sz B lo' hi':Nat} {w w' w3 w4 wr w2:World} {L R xs x y e e':List Int} {c v d vm vo v3:Value} {m:Mv} {ms:List Mv}
theorem zzo {a b:Value}(h:zcs lo hi w a b L R)(hb:Below w w w')(hh:hi<=w):RdI w' a L/\RdI w' b R:=by
 obtain⟨m,h1,h2,h3,h4⟩:=h;exact⟨(h3.sl.below hb (by omega)).wide (aw_ _) (J_ (J_ h2 hh) hb.size),(h4.sl.below hb hh).wide (aw_ _) (J_ hh hb.size)⟩
theorem SlI.len' {c:Nat} {a:Option Addr}(h:SlI lo hi w (.slice a n c) xs):n=xs.length:=by
 obtain⟨_,_,e,_⟩:=h;injection e
theorem SlI.take {b:Nat}(h:SlI lo hi w (.slice (q_ b off) n cap) xs)(j:Nat)(hj:j<=xs.length):SlI lo hi w (.slice (q_ b off) j cap) (xs.take j):=by
 have h1:=h.sub 0 j (aw_ _) hj
 simpa using h1
theorem SlI.dropI {b:Nat}(h:SlI lo hi w (.slice (q_ b off) n cap) xs)(i:Nat)(hi':i<=xs.length):
  SlI lo hi w (.slice (if cap=i then some ⟨b,off,none⟩ else some ⟨b,off+i,none⟩) (n-i) (cap-i)) (xs.drop i):=by
 have hn:=h.len';subst hn;have hc:xs.length<=cap:=by obtain⟨_,_,e,h1,_⟩:=h;injection e with _ _ e;subst e;exact h1
 have h1:=h.sub i xs.length hi' (le_ _);rw[ay_ (by simp)]at h1
 split
 ·rename_i hci
  have h0:xs.length-i=0:=by omega
  have hx0:xs.drop i=[]:=az_ (by omega);rw[hx0,h0];exact⟨_,_,rfl,aw_ _,by unfold maxLen;omega,rfl,(λh=>by cases h),λk hk=>by simp[δ] at hk⟩
 ·exact h1
theorem zup {w5 w6 w7:World}(h4:Below w3 w3 w4)(h5:Below w4.drew.heap.size w4.drew w5)(h6:Below w5 w5 w6)(h7:β w3 (w3+1) w6 w7):Below w3 w3 w7:=by
 have hd:w4.drew.heap.size=w4.heap.size:=rfl;have s4:=h4.size;have s5:=h5.size;have s6:=h6.size;exact ε (((h4.drew).trans (h5.mono (by omega))).trans (h6.mono (by omega))) h7 (le_ _) (by omega)
theorem zrl {a b:Value}(h:RdI w a (Ν n true)/\RdI w b (Ν n false))(hx:x=Ν n (!false))(hy:y=Ν n false):RdI w a x/\RdI w b y:=by subst hx hy;exact h
theorem zp9 {a b:Value}(h:RdI w a (Ν n true)/\RdI w b (Ν n false))(hx:x=Ν n (!true))(hy:y=Ν n true):RdI w b x/\RdI w a y:=by subst hx hy;exact⟨h.2,h.1⟩
theorem zvb(ve:Value)(e:List Int)(n:Nat)(bk:Bool)(k:Nat)(w:World)(hE:zax w)(hx:RdI w ve e)(hn21:n<21)(hlt:k<e.length)(pre rest:List Int)(t p:KT)(q:List Int)(hM:zke e ⟨n,bk,k⟩ k pre rest t p q):
  Calls prog 122 #[ve,.agg #[.int .i64 n,.bool bk,.int .i64 k]] w (zji (DoR w (Ψ e ⟨n,bk,k⟩))):=by
 have hr':inB (n:Int) 0 20=true:=by simp[inB];omega
 have⟨w0,hw0⟩:=xa_ w #[.int .i64 n,.bool bk,.int .i64 k] 67;have hb0:Below w w w0:=by rw[hw0];exact(B_ _ _).alloc (le_ _) _
 have hs0:w0=w.heap.size+1:=by rw[hw0];simp
 have K:=H_ (show Blk w (.cells #[.int .i64 n,.bool bk,.int .i64 k] 67) w0 by rw[hw0];exact κ w _);have HB:=H_ hb0;have HE:=H_ (hE.below hb0);have HX:=H_ (hx.below hb0);have HW0:=H_ hw0;have HM:=H_ hM;obtain⟨ea,ecap,rfl,hec,hecm,_⟩:=hx.open;have⟨hk0,hkl,hkn⟩:¬(k:Int)<0/\¬(e.length:Int)<=k/\¬e.length<=k:=by omega
 have hel:=hM.el;have c0:=K.o.cell 0;have c2:=K.o.cell 2;obtain⟨eb,eoff,rfl⟩:=SlI.notNil hx (by omega);clear hx hE hb0 hw0 hM;unfold maxLen at hecm;have hmm:=@run_makeMap prog
 go_enter func122,ntmps122
 go_wp2_with (first | rw[<-HW0.o] | (go_at_call 145;refine(zm7 _ _).mono ?_;rintro e w' ⟨rfl,rfl⟩))
 refine(zzl n hn21 _ HE.o).mono ?_;rintro e1 w1 ⟨ra,rb,rfl,hb1,hrule⟩;obtain⟨la,ln,lc,rfl⟩:∃ x l c,ra=.slice x l c:=by obtain⟨_,_,_,h3,_⟩:=hrule;obtain⟨x,c,h,_⟩:=θ h3;exact⟨x,_,c,h⟩
 obtain⟨lb,lm,ld,rfl⟩:∃ x l c,rb=.slice x l c:=by obtain⟨_,_,_,_,h3⟩:=hrule;obtain⟨x,c,h,_⟩:=θ h3;exact⟨x,_,c,h⟩
 have⟨wa,hwa⟩:=xa_ w1 #[(),()] 161;have KA:Blk w1 (.cells #[(),()] 161) wa:=by rw[hwa];exact κ w1 _
 have HWA:=H_ hwa;obtain⟨f0,f1⟩:=KA.f2;obtain⟨r0,r1⟩:=KA.c2;have⟨w2,hw2⟩:=x2_ wa w1 (.slice la ln lc) (.slice lb lm ld);have KR:=H_ (show Blk w1 _ w2 by rw[hw2];exact KA.set2 (.slice la ln lc) (.slice lb lm ld));have hba:Below w1 w1 wa:=by rw[hwa];exact(B_ _ _).alloc (le_ _) _
 have hsa:wa=w1.heap.size+1:=by rw[hwa];simp
 have hb2:Below w1 w1 w2:=by rw[hw2];exact ε hba (β.set2 _ _ _ _) (le_ _) (by omega)
 have HW2:=H_ hw2;have hs1:=hb1.size;have hs2:=hb2.size;have HRU:=H_ (hrule.below hb2 (le_ _));have HB2:=H_ ((HB.o.trans (hb1.mono HB.o.size)).trans (hb2.mono (by omega)));have K2:=H_ ((K.o.below hb1 K.o.lt).below hb2 (by have:=K.o.lt;omega));have HX2:=H_ ((HX.o.below hb1).below hb2);have HE2:=H_ ((HE.o.below hb1).below hb2);clear hwa KA hw2 hb2 hba hb1 hrule HE K HB HX c0 c2;go_wp2_with (first | rw[<-HWA.o] | rw[<-HW2.o])
 have⟨q0,q1⟩:=KR.o.c2
 go_quiet (fail)
 have⟨w3,hw3⟩:=ex_ (w2.drewN nq);have hb3:Below w2 w2 w3:=by rw[hw3];exact ai_ (B_ _ _) _
 have HW3:=H_ hw3;have hs3:=hb3.size;have HB3:=HB2.tr hb3 (by omega);have K3:=H_ (K2.o.below hb3 (by have:=K2.o.lt;omega));have HX3:=H_ (HX2.o.below hb3);have HRU3:=H_ (zzo HRU.o hb3 (by omega));clear q0 q1 f0 f1 r0 r1 hw3 hb3 K2 HX2 HE2 HB2 HRU KR;have c1:=K3.o.cell 1;have c2:=K3.o.cell 2;rw[<-HW3.o];have HSP:=H_ HM.o.span;have HF:Q_ (p.post=Ν n (!bk)):=H_ HM.o.from_;have HT:Q_ (q=Ν n bk):=H_ HM.o.to_;have hkeq:=HM.o.keq;have htsz:=HM.o.sz;have htpos:=t.size_pos;have hpsz:=HM.o.psz;have hql:=HM.o.ql;cases bk
 all_goals (
  first | have HFT:=H_ (zrl HRU3.o HF.o HT.o) | have HFT:=H_ (zp9 HRU3.o HF.o HT.o)
  obtain rfl:=HFT.o.1.len';obtain rfl:=HFT.o.2.len';clear HRU3;go_wp2_with fail
  refine(zyu 0 _ _ e k t.size w3 HX3.o (by omega) hlt HSP.o).mono ?_;rintro e1 wx ⟨x1,rfl,hx1,_,_,rfl⟩;obtain rfl:x1=(pre.length:Int):=by omega
  have⟨w4,hw4⟩:=ex_ (w3.alloc (.map #[] 0));have hb4:Below w3 w3 w4:=by rw[hw4];exact(B_ _ _).alloc (le_ _) _
  have hs4:w4=w3.heap.size+1:=by rw[hw4];simp
  have HMV:=H_ (show zca w3 w4 zc2 by rw[hw4];exact zca.made w3);have HB4:=HB3.tr hb4 (by omega);have K4:=K3.kb hb4;have HX4:=H_ (HX3.o.below hb4);have HFT4:=H_ (a_ (HFT.o.1.below hb4) (HFT.o.2.below hb4));have HW4:=H_ hw4;have c4:=K4.o.cell 2
  have hbx:eb<w4:=by
   obtain⟨_,_,e',_,h',_⟩:=HX4.o.get 0 (by omega);injection e' with e';injection e' with e1 _;omega
  have HB34:=H_ hb4;clear hw4 hb4 c1 c2 hx1;have z1:IntKind.i64.wrap ((k:Int)+1)=(k:Int)+1:=by simp[IntKind.wrap,IntKind.bits,IntKind.signed];omega
  have⟨z2,z3,z4,z5,z6,z7⟩:(0:Int)<=(k:Int)+1/\(pre.length:Int)<=(k:Int)+1/\(k:Int)+1<=ecap/\((k:Int)+1).toNat=k+1/\pre.length<=k+1/\k+1<=ecap:=by omega
  have⟨z8,z9⟩:((k:Int)+1-pre.length).toNat=t.size/\k+1-pre.length=t.size:=by omega
  go_wp2_with (rw[<-HW4.o])
  have HPT:Q_ (RdI w4 (.slice (q_ eb (eoff+pre.length)) t.size (ecap-pre.length)) t.post):=by
   have h:=HX4.o.sub pre.length (k+1) (by omega) (by omega);rw[z9]at h;have h2:(e.drop pre.length).take t.size=t.post:=by rw[HM.o.eq,Z_,ch_,<-t.post_length,bl_]
   rw[h2]at h;exact H_ h
  have hcd:w4.drew.cell? (p_ w 2)=some (.int .i64 k):=c4;have hk0s:w<w4.heap.size:=K4.o.lt;have hdz:w4.drew.heap.size=w4.heap.size:=rfl;have hkbm:w<w3.heap.size:=by omega
  have HD4:=H_ (a_ (zfh HFT4.o.1 (z_ (B_ w4 w4))) (zfh HPT.o (z_ (B_ w4 w4))));have HMD:=H_ (HMV.o.below (z_ (B_ w4 w4)));clear c4
  go_region_held3 (λw'=>w'.cell? (p_ w 2)=some (.int .i64 k)) (first | assumption | go_keep) (first
   | (go_at_call_of 132 p;refine(zm4 _ p.post p _ HD4.o.1 (by rw[p.post_length];omega) (zem (-3) p HM.o.pok [])).mono ?_;rintro e5 w5 ⟨p5,rfl,hb5,hrt5⟩;obtain⟨pa5,rfl⟩:=hrt5.isPtr;(have hz5:=hb5.size);(have hc5:w5.cell? (p_ w 2)=some (.int .i64 k):=(hb5.cell (p:=p_ w 2) (by show w.heap.size<w4.drew.heap.size;exact hk0s)).trans hcd);(have H5:=H_ (a_ hb5 hrt5));clear hb5 hrt5)
   | (go_at_call_of 132 ecap;refine(zm4 _ t.post t _ (zfh HD4.o.2 H5.o.1) (by rw[t.post_length];omega) (zem 0 t HM.o.ok [])).mono ?_;rintro e6 w6 ⟨p6,rfl,hb6,hrt6⟩;obtain⟨pa6,rfl⟩:=hrt6.isPtr;(have hz6:=hb6.size);(have hc6:w6.cell? (p_ w 2)=some (.int .i64 k):=(hb6.cell (p:=p_ w 2) (by show w<w5.heap.size;omega)).trans hc5);(have H6:=H_ (a_ hb6 hrt6));clear hb6 hrt6)
   | (go_at_call 165;refine(zkq p t zc2 w6 w4 w3 _ _ HM.o.pok (by omega) HM.o.ok htsz GV.zero ((H5.o.2.below H6.o.1).lower (by omega)) (H6.o.2.lower (by omega)) (by omega) ((HMD.o.below H5.o.1).below H6.o.1)).mono ?_;rintro e7 w7 ⟨b7,rfl,rfl,ho7,hx7⟩;(have hz7:=ho7.size);(have hc7:w7.cell? (p_ w 2)=some (.int .i64 k):=(ag_ (w:=w6) (a:=p_ w 2) (ho7.block w (by omega) (.inl (by omega)))).trans hc6);(have H7:=H_ (a_ ho7 hx7));clear ho7 hx7))
  have HB37:=H_ (zup HB34.o H5.o.1 H6.o.1 H7.o.1);have HB7:=HB3.tr HB37.o (by omega);have hs7:=HB7.o.size;have HX7:=H_ (HX3.o.below HB37.o);have K7:=H_ (K3.o.below HB37.o (by omega));have HT7:=H_ (HFT.o.2.below HB37.o);have HMX:=H_ H7.o.2;have c7:=K7.o.cell 2;clear HB34 H5 H6 H7 HMD HD4 HPT HFT4 HMV HX4 K4 HB4 HB37 HX3 K3 HFT HB3 hcd hc5 hc6 hc7 z1 z2 z3 z4 z5 z6 z7 z8 z9 hz5 hz6;cases hres:Α p t zc2 with
  | none=>
   have HR:Q_ (Ψ e ⟨n,_,k⟩=none):=H_ (by rw[HM.o.mv,hres];rfl);clear hres;simp only[a8_];go_wp2
   go_region
   all_goals (
    go_wp2;refine d_ (v:=.tuple #[(),.iface 171 (.pointer (q_ w7 0))]) (by simp[results,results122,go_sem]) rfl ⟨_,_,rfl,zi6 HR.o (z_ (HB7.o.alloc (by omega) _)) (by omega)⟩)
  | some V=>
   have HR:=H_ (HM.o.mv);rw[hres]at HR;simp only[a0_];have HG:=H_ (zh3 p t zc2 V HM.o.ok htsz GV.zero hres);have HVAL:=H_ (λx hx=>HM.o.val V x hres hx)
   have hrl:rest.length=e.length-(k+1):=by
    have h:=congrArg List.length HM.o.eq;simp only[n_,t.post_length]at h;omega
   have hrest:e.drop (k+1)=rest:=by
    rw[show k+1=(pre++t.post).length by rw[n_,t.post_length];omega,HM.o.eq,ch_]
   have HRS:=H_ (a_ hrl hrest);clear hrl hrest;have HMV7:=H_ (HMX.o V hres)
   have HPRE:=H_ (show SlI 0 w7 w7 (.slice (q_ eb eoff) pre ecap) pre by
    (have h:=SlI.take HX7.o pre.length (by omega))
    rwa [show e.take pre.length=pre by rw[HM.o.eq,Z_,bl_]]at h)
   have⟨y1,y2,y3⟩:(pre.length:Int)<=ecap/\pre.length<=ecap/\pre.length<=40:=by omega
   clear hres HMX;go_wp2_with fail
   refine(zdo 0 w7 _ pre w7 HPRE.o (by omega)).mono ?_;rintro e8 w8 ⟨v8,rfl,hb8,ho8⟩;have hs8:=hb8.size;have HB8:=H_ hb8;have HO8:=H_ ho8;obtain⟨a8,c8,rfl,_⟩:=θ ho8;clear hb8 ho8 c7;have HQL:=H_ HM.o.qlo;go_wp2;go_loopw [11,79] (λv i wr=>∃ (j:Nat) (acc:List Int),j<=q.length/\i=.int .i64 j/\acc.length<=40+40*j/\Q_ (Own 1 w7 wr 3 wr v acc.length (δ acc)/\Below w7 w7 wr/\∃ x,acc=pre++x/\Γ q V=(Γ (q.drop j) V).map (x++·))) (λ_ i _=>q.length-(intOf i).toNat)
   case atStart=>exact⟨0,pre,by omega,rfl,by omega,H_ ⟨HO8.o,HB8.o,[],by simp,by rw[ci_];cases Γ q V<;>simp⟩⟩
   case round=>
    obtain⟨j,acc,hj,rfl,hal,HR2⟩:=hrel;have HO:=H_ HR2.o.1;have HBR:=H_ HR2.o.2.1;obtain⟨x,hx1,hx2⟩:=HR2.o.2.2;have HAX:=H_ hx1;have HF:=H_ hx2;obtain⟨oa,ocap,rfl,_⟩:=θ HO.o;have hszr:=HBR.o.size;have HBW:=HB7.tr HBR.o hs7;have cr2:=(K7.o.below HBR.o K7.o.lt).cell 2;clear hx1 hx2 HR2;by_cases hjl:j<q.length
    ·(obtain⟨tb,toff,rfl,_,_,_,hcq⟩:=(HT7.o.below HBR.o).get j hjl);have⟨s,hs⟩:=ex_ (q[j]);have hst:=zre q V j hjl;have hslo:=HQL.o j hjl;rw[<-hs]at hcq hst hslo;have HST:=H_ hst;clear hst hs;by_cases h0:0<=s
     ·have HF2:Q_ (Γ q V=(Γ (q.drop (j+1)) V).map ((x++[s])++·)):=by
       refine H_ ?_;rw[HF.o,HST.o,x_ h0];cases Γ (q.drop (j+1)) V<;>simp
      go_wp2_with (at_builtin;go_loud (refine zap wr rfl _ _ 22 rfl 3 (0:Int) 1 8 underlying22 ω rfl (by decide) (by decide) rfl HO.o 1 (δ [s]) rfl rfl (Ι _) rfl (by omega) (by omega) ?_))
      intro v9 w9 ho9 hout9 _;have HO9:=H_ ho9;have HB9:=H_ (ε HBR.o hout9 (le_ _) HBR.o.size);clear ho9 hout9;go_wp2;go_roundw
      (case rel=>exact⟨j+1,acc++[s],by omega,by go_num,by simp;omega,H_ ⟨by rw[n_,zaa];exact HO9.o,HB9.o,x++[s],by rw[HAX.o,Z_],HF2.o⟩⟩);case measure=>simp[intOf];omega
     ·(obtain⟨i,hi3,hsi⟩:∃ i:Nat,i<3/\s=-1-(i:Int):=⟨(-1-s).toNat,by omega,by omega⟩);subst hsi;have hvk:zbf (-1-(i:Int))=i:=by unfold zbf;omega
      rw[hvk,m_ h0]at HST;have hbd:=HG.o.bd i;rcases (HMV7.o.below HBR.o).look i hi3 with⟨hl,hv0⟩|⟨v0,hl,hv0,hsv⟩
      ·(have HRN:Q_ (Ψ e ⟨n,_,k⟩=none):=H_ (by rw[HR.o,ab_,HF.o,HST.o,x_ hv0];rfl));clear hv0 HST;go_wp2
       go_region
       all_goals (
        go_wp2;refine d_ (v:=.tuple #[(),.iface 171 (.pointer (q_ wr 0))]) (by simp[results,results122,go_sem]) rfl ⟨_,_,rfl,zi6 HRN.o (z_ (HBW.o.alloc (by omega) _)) (by omega)⟩)
      ·generalize V.getD i []=Q at HST hbd hv0 hsv hl
       (obtain⟨ya,yc,rfl,_⟩:=π hsv;have HSV:=H_ hsv)
       have HF2:Q_ (Γ q V=(Γ (q.drop (j+1)) V).map ((x++Q)++·)):=by
        refine H_ ?_;rw[HF.o,HST.o,m_ hv0];cases Γ (q.drop (j+1)) V<;>simp
       clear hsv hv0 HST hvk;go_wp2_with (at_builtin;go_loud (refine Μ rfl _ _ 22 rfl 3 (0:Int) 1 8 underlying22 ω rfl (by decide) (by decide) rfl HO.o rfl HSV.o (Ι _) (by omega) (by omega) ?_))
       intro v9 w9 ho9 _ hout9 _;have HO9:=H_ ho9;have HB9:=H_ (ε HBR.o hout9 (le_ _) HBR.o.size);clear ho9 hout9;go_wp2;go_roundw
       (case rel=>exact⟨j+1,acc++Q,by omega,by go_num,by simp only[n_];omega,H_ ⟨by rw[n_,zaa];exact HO9.o,HB9.o,x++Q,by rw[HAX.o,Z_],HF2.o⟩⟩);case measure=>simp[intOf];omega
    ·(obtain rfl:j=q.length:=by omega);(have hFq:Γ q V=some x:=by rw[HF.o,zpm _ _ _ (le_ _)];simp);(obtain⟨_,hv2,_⟩:=HVAL.o x hFq;have HFQ:=H_ hFq;have HTL:=H_ ((HX7.o.below HBR.o).dropI (k+1) (by omega));rw[HRS.o.2]at HTL;have hrl:=HRS.o.1;have hal2:acc.length<=1640:=by rw[HAX.o,n_];omega);(have⟨z1,z2,z3,z4,z5,z6⟩:((k:Int)+1).toNat=k+1/\(0:Int)<=(k:Int)+1/\(k:Int)+1<=e.length/\(k:Int)+1<=ecap/\((e.length:Int)-((k:Int)+1)).toNat=rest.length/\k+1<=e.length:=by omega);(have⟨z7,z8⟩:k+1<=ecap/\e.length-(k+1)=rest.length:=by omega);rw[z8]at HTL;clear hFq hrl;have hcases:ecap=k+1\/¬ecap=k+1:=by omega
     rcases hcases with hcs|hcs
     all_goals (
      (have HT2:=HTL.o)
      first | rw[x_ hcs,hcs,be_] at HT2 | rw[m_ hcs] at HT2
      (have HT3:=H_ HT2;clear HT2)
      try subst hcs
      go_wp2_with (at_builtin;go_loud (refine Μ rfl _ _ 22 rfl 3 (0:Int) 1 8 underlying22 ω rfl (by decide) (by decide) rfl HO.o rfl HT3.o (Ι _) (by omega) (by omega) ?_))
      intro v9 w9 ho9 _ hout9 _
      have HO9:Q_ (γ w7 w9 3 w9 v9 (pre++x++rest)):=by
       rw[<-HAX.o];refine H_ ?_;unfold γ;rw[n_,zaa];exact ho9
      (have HB9:=H_ (HB7.o.trans ((ε HBR.o hout9 (le_ _) HBR.o.size).mono hs7));have hlen9:(pre++x++rest).length=acc.length+rest.length:=by rw[<-HAX.o,n_]);obtain⟨a9,c9,rfl,_⟩:=θ ho9;have cr9:=(K7.o.below ((ε HBR.o hout9 (le_ _) HBR.o.size)) K7.o.lt).cell 2;have hs9:=hout9.size;have HMV9:=H_ (HR.o);rw[ab_,HFQ.o,ab_,hlen9]at HMV9;have HL9:=H_ hlen9;clear ho9 hout9 hlen9 cr2;by_cases hbig:acc.length+rest.length<=40
      ·rw[x_ hbig]at HMV9
       go_wp2;refine d_ (v:=.tuple #[.slice a9 (acc.length+rest.length) c9,.nilIface]) (by simp[results,results122,go_sem]) rfl ⟨_,_,rfl,?_⟩;rw[HMV9.o];have h:=HO9.o;unfold γ at h;rw[HL9.o]at h;refine⟨HB9.o,rfl,?_⟩;unfold γ;rw[HL9.o];exact za3 h hs7 (le_ _)
      ·rw[m_ hbig]at HMV9
       go_wp2
       go_region
       all_goals (
        go_wp2;refine d_ (v:=.tuple #[(),.iface 171 (.pointer (q_ w9 0))]) (by simp[results,results122,go_sem]) rfl ⟨_,_,rfl,zi6 HMV9.o (z_ (HB9.o.alloc (by omega) _)) (by omega)⟩)))
theorem zln(ve:Value)(e:List Int)(m:Mv)(w:World)(hE:zax w)(hx:RdI w ve e)(hv:ν e=true):
  Calls prog 122 #[ve,ziw m] w (zji (DoR w (Ψ e m))):=by
 cases hr:isR m.which
 ·exact zyv ve e m w hr
 ·cases ha:inB m.at_ 0 (e.length-1)
  ·exact zxz ve e m w hx hr ha
  ·obtain⟨k,hk,hlt⟩:∃ k:Nat,m.at_=k/\k<e.length:=⟨m.at_.toNat,by simp[inB] at ha;omega,by simp[inB] at ha;omega⟩
   obtain⟨n,hn,hn21⟩:∃ n:Nat,m.which=n/\n<21:=⟨m.which.toNat,by simp[isR,inB] at hr;omega,by simp[isR,inB] at hr;omega⟩;obtain⟨pre,rest,t,p,q,hM⟩:=zng hv hr hk hlt;obtain⟨wh,bk,at_⟩:=m;subst hk hn;exact zvb ve e n bk k w hE hx hn21 hlt pre rest t p q hM
def zbt(w:World)(r:Option (List Int))(v:Value)(ok:Bool)(w':World):Prop:=
 Below w w w'/\ok=r.isSome/\γ w w' 3 w' v (r.getD [])
theorem zbt.fail(hb:Below w w w'):zbt w none (.slice (q_ w' 0) 0 0) false (w'.alloc (.cells #[] 3)):=
 ⟨hb.alloc hb.size _,rfl,za3 (ς 1 3 w' (δ []) 0 (by omega) rfl) hb.size (by simp)⟩
theorem zv8(w:World)(w':World)(b:Nat)(hb:Blk b (.cells #[.slice (q_ w 0) 0 0,.slice (q_ (w+1) 0) 0 0,.slice (q_ (w+2) 0) 0 0] 22) w'):
  RdV w' (.slice (q_ b 0) 3 3) zc2:=by
 refine⟨[.slice (q_ w 0) 0 0,.slice (q_ (w+1) 0) 0 0,.slice (q_ (w+2) 0) 0 0],⟨some ⟨b,0,none⟩,3,rfl,by omega,by decide,rfl,(by intro h;cases h),λi hi=>?_⟩,λk hk=>?_⟩
 ·refine⟨b,0,rfl,aw_ _,hb.lt,hb.lt,?_⟩
  rw[U_,hb.cell];simp
 ·match k,hk with
  | 0,_=>exact⟨_,rfl,_,0,rfl,le_ _,by decide,rfl,(by intro h;cases h),λi hi=>by simp[δ,zc2] at hi⟩
  | 1,_=>exact⟨_,rfl,_,0,rfl,le_ _,by decide,rfl,(by intro h;cases h),λi hi=>by simp[δ,zc2] at hi⟩
  | 2,_=>exact⟨_,rfl,_,0,rfl,le_ _,by decide,rfl,(by intro h;cases h),λi hi=>by simp[δ,zc2] at hi⟩
theorem z1p(e:List Int)(m:Mv)(ve:Value)(w:World)(he:RdI w ve e)(hel:e.length<=1048576)(hbad:(ν e&&isR m.which&&inB m.at_ 0 (e.length-1))=false):
  Calls prog 99 #[ve,.agg #[.int .i64 m.which,.bool m.back,.int .i64 m.at_]] w (za8 (zbt w (Ψ e m))):=by
 have HN:Q_ (Ψ e m=none):=H_ (by unfold Ψ;rw[hbad];rfl);have⟨kv,hkv⟩:=ex_ (ν e);have⟨kr,hkr⟩:=ex_ (isR m.which);have⟨ki,hki⟩:=ex_ (inB m.at_ 0 (e.length-1));rw[<-hkv,<-hkr,<-hki]at hbad;have HKV:=H_ hkv;have HKR:=H_ hkr;have HKI:=H_ hki;clear hkv hkr hki;have⟨w0,hw0⟩:=xa_ w #[.int .i64 m.which,.bool m.back,.int .i64 m.at_] 67;have hb0:Below w w w0:=by rw[hw0];exact(B_ _ _).alloc (le_ _) _
 have hs0:w0=w.heap.size+1:=by rw[hw0];simp
 have K:=H_ (show Blk w (.cells #[.int .i64 m.which,.bool m.back,.int .i64 m.at_] 67) w0 by rw[hw0];exact κ w _);have HB:=H_ hb0;have HE:=H_ (he.below hb0);have HW0:=H_ hw0;obtain⟨ea,ecap,rfl,hec,hecm,_⟩:=he.open;have c0:=K.o.cell 0;clear he hb0 hw0
 go_enter func99,ntmps99
 go_wp2_with fail
 simp only[<-HW0.o];go_wp2_with fail
 refine(zov m.which _).mono ?_;rintro e1 w1 ⟨ra,rb,rc,rfl,hrc,hb1,hrule⟩;obtain⟨la,ln,lc,rfl⟩:∃ x l c,ra=.slice x l c:=by obtain⟨_,_,_,h3,_⟩:=hrule;obtain⟨x,c,h,_⟩:=θ h3;exact⟨x,_,c,h⟩
 obtain⟨lb,lm,ld,rfl⟩:∃ x l c,rb=.slice x l c:=by obtain⟨_,_,_,_,h3⟩:=hrule;obtain⟨x,c,h,_⟩:=θ h3;exact⟨x,_,c,h⟩
 have⟨wa,hwa⟩:=xa_ w1 #[(),()] 161;have KA:Blk w1 (.cells #[(),()] 161) wa:=by rw[hwa];exact κ w1 _
 have HWA:=H_ hwa;obtain⟨r0,r1⟩:=KA.c2;obtain⟨f0,f1⟩:=KA.f2;have⟨w2,hw2⟩:=x2_ wa w1 (.slice la ln lc) (.slice lb lm ld);have KR:=H_ (show Blk w1 _ w2 by rw[hw2];exact KA.set2 (.slice la ln lc) (.slice lb lm ld));have hba:Below w1 w1 wa:=by rw[hwa];exact(B_ _ _).alloc (le_ _) _
 have hsa:wa=w1.heap.size+1:=by rw[hwa];simp
 have hb2:Below w1 w1 w2:=by rw[hw2];exact ε hba (β.set2 _ _ _ _) (le_ _) (by omega)
 have HW2:=H_ hw2;have hs1:=hb1.size;have hs2:=hb2.size;have HRU:=H_ (hrule.below hb2 (le_ _));have HB2:=H_ ((HB.o.trans (hb1.mono HB.o.size)).trans (hb2.mono (by omega)));have K2:=H_ ((K.o.below hb1 K.o.lt).below hb2 (by have:=K.o.lt;omega));have HE2:=H_ ((HE.o.below hb1).below hb2);have HRC:=H_ hrc;clear hwa KA hw2 hb2 hba hb1 hrule hrc HE K HB c0;go_wp2_with (first | rw[<-HWA.o] | rw[<-HW2.o])
 refine(zag 0 _ _ e _ HE2.o hel).mono ?_;rintro e2 wx ⟨rfl,rfl⟩;clear r0 r1 f0 f1;rw[<-HKV.o];have hrc:=HRC.o;rw[<-HKR.o]at hrc;subst hrc;have c2:=K2.o.cell 2;cases kv
 ·go_wp2
  refine d_ (v:=.tuple #[.slice (q_ w2 0) 0 0,.bool false]) (by simp[results,results99,go_sem]) rfl ⟨_,_,rfl,?_⟩;rw[HN.o];exact zbt.fail HB2.o
 ·cases rc
  ·go_wp2
   refine d_ (v:=.tuple #[.slice (q_ w2 0) 0 0,.bool false]) (by simp[results,results99,go_sem]) rfl ⟨_,_,rfl,?_⟩;rw[HN.o];exact zbt.fail HB2.o
  ·simp only[dx_]at hbad
   subst hbad;have hin:=HKI.o.symm;go_wp2_with (go_at_call 101;refine(za0 _ _ _ _).mono ?_;rintro e w' ⟨rfl,rfl⟩)
   refine d_ (v:=.tuple #[.slice (q_ w2 0) 0 0,.bool false]) (by simp[results,results99,go_sem]) rfl ⟨_,_,rfl,?_⟩;rw[HN.o];exact zbt.fail HB2.o
theorem zmc {V V':List (List Int)}(hm:∀ i,V.getD i []≠[]->V'.getD i []=V.getD i []):∀ (l x:List Int),Γ l V=some x->Γ l V'=some x
 | [],x,h=>h
 | s :: r,x,h=>by
  rw[Γ]at h ⊢
  split at h
  ·rename_i hs
   rw[x_ hs];obtain⟨y,h1,h2⟩:=W_.1 h;rw[zmc hm r y h1,<-h2];rfl
  ·rename_i hs
   rw[m_ hs]
   split at h
   ·cases h
   ·rename_i hv
    rw[hm _ hv,m_ hv];obtain⟨y,h1,h2⟩:=W_.1 h;rw[zmc hm r y h1,<-h2];rfl
theorem zjk:∀ (p t:KT) (V V':List (List Int)),V.length=3->p.ok (-3)=true->t.ok 0=true->Α p t V=some V' ->
  V'.length=3/\(∀ i,V.getD i []≠[]->V'.getD i []=V.getD i [])/\Γ p.post V'=some t.post
 | .leaf n,t,V,V',hV,hp,ht,h=>by
  simp only[KT.ok,j_,t_]at hp;rw[Α]at h
  split at h
  ·rename_i hn
   have hk:zbf n<3:=by unfold zbf;omega
   have hn0:¬0<=n:=by omega
   split at h
   ·rename_i h0
    injection h with h;subst h;have hg:(V.set (zbf n) t.post).getD (zbf n) []=t.post:=by simp[List.getD,hV,hk]
    refine⟨by simp[hV],λi hi=>?_,?_⟩
    ·(have hne:zbf n≠i:=by intro e;subst e;exact hi h0);simp[List.getD,a6_ hne]
    ·simp only[KT.post,Γ,m_ hn0,hg,m_ t.post_ne]
     simp
   ·rename_i h0
    split at h
    ·rename_i h1
     injection h with h;subst h;refine⟨hV,λi _=>rfl,?_⟩;simp only[KT.post,Γ,m_ hn0,h1,m_ t.post_ne];simp
    ·cases h
  ·rename_i hn
   split at h
   ·rename_i hr
    injection h with h;subst h;refine⟨hV,λi _=>rfl,?_⟩;have hn0:0<=n:=by omega
    cases t with
    | leaf m=>simp only[KT.root] at hr;subst hr;simp[KT.post,Γ,hn0]
    | star _=>simp only[KT.root] at hr;omega
    | bin q _ _=>simp only[KT.root] at hr;cases q<;>simp[KT.op] at hr<;>omega
   ·cases h
 | .star p,t,V,V',hV,hp,ht,h=>by
  simp only[KT.ok]at hp;cases t with
  | star t'=>
   simp only[Α]at h;simp only[KT.ok]at ht;obtain⟨h1,h2,h3⟩:=zjk p t' V V' hV hp ht h;refine⟨h1,h2,?_⟩;simp only[KT.post,zhk,h3];simp[Γ]
  | leaf _=>simp[Α] at h
  | bin _ _ _=>simp[Α] at h
 | .bin q a b,t,V,V',hV,hp,ht,h=>by
  simp only[KT.ok,j_]at hp;cases t with
  | bin r c d=>
   simp only[Α]at h;simp only[KT.ok,j_]at ht
   split at h
   ·rename_i hq
    subst hq;rw[M_]at h;obtain⟨V1,g1,g2⟩:=h;obtain⟨h1,h2,h3⟩:=zjk a c V V1 hV hp.1 ht.1 g1;obtain⟨k1,k2,k3⟩:=zjk b d V1 V' h1 hp.2 ht.2 g2;refine⟨k1,λi hi=>?_,?_⟩
    ·rw[k2 i (by rw[h2 i hi];exact hi),h2 i hi]
    ·(have hq0:0<=KT.op q:=by cases q<;>simp[KT.op]);simp only[KT.post,zhk,zmc k2 _ _ h3,k3];simp[Γ,hq0]
   ·cases h
  | leaf _=>simp[Α] at h
  | star _=>simp[Α] at h
def zdk:List Nat:=[2,3,5,6,7,8,15,16,17,18,19]
theorem zuh:∀ n∈zdk,∀ V t part,V.length=3->Γ (Ν n true) V=some t->Γ (Ν n false) V=some part->part.length<t.length:=by
 have e2:Ν 2 true=[-1,-1,20]/\Ν 2 false=[-1]:=by decide +kernel
 have e3:Ν 3 true=[-1,0,20]/\Ν 3 false=[-1]:=by decide +kernel
 have e5:Ν 5 true=[15,-1,19]/\Ν 5 false=[-1]:=by decide +kernel
 have e6:Ν 6 true=[-1,15,19]/\Ν 6 false=[-1]:=by decide +kernel
 have e7:Ν 7 true=[0,-1,19]/\Ν 7 false=[0]:=by decide +kernel
 have e8:Ν 8 true=[-1,0,19]/\Ν 8 false=[0]:=by decide +kernel
 have e15:Ν 15 true=[-1,21,21]/\Ν 15 false=[-1,21]:=by decide +kernel
 have e16:Ν 16 true=[-1,21,-1,21,19]/\Ν 16 false=[-1,21]:=by decide +kernel
 have e17:Ν 17 true=[0,21]/\Ν 17 false=[15]:=by decide +kernel
 have e18:Ν 18 true=[15,21]/\Ν 18 false=[15]:=by decide +kernel
 have e19:Ν 19 true=[15,-1,20,21]/\Ν 19 false=[-1,21]:=by decide +kernel
 intro n hn V t part hV h1 h2
 obtain⟨X,Y,Z,rfl⟩:∃ X Y Z,V=[X,Y,Z]:=by
  match V,hV with
  | [X,Y,Z],_=>exact⟨X,Y,Z,rfl⟩
 have hl:X≠[]->0<X.length:=λh=>b3_.2 h
 simp only[zdk,N_,cl_,bx_]at hn;by_cases hX:X=[]
 ·subst hX
  rcases hn with rfl|rfl|rfl|rfl|rfl|rfl|rfl|rfl|rfl|rfl|rfl
  all_goals simp[Γ,zbf,e2,e3,e5,e6,e7,e8,e15,e16,e17,e18,e19] at h1 h2
  all_goals (subst h1;subst h2;simp)
 ·have hp:=hl hX
  rcases hn with rfl|rfl|rfl|rfl|rfl|rfl|rfl|rfl|rfl|rfl|rfl
  all_goals simp[Γ,zbf,e2,e3,e5,e6,e7,e8,e15,e16,e17,e18,e19,hX] at h1 h2
  all_goals (subst h1;subst h2;simp;try omega)
theorem zsl(h:Ψ e m=some e'):ν e=true/\isR m.which=true/\inB m.at_ 0 (e.length-1)=true/\zmy e m=some e':=by
 unfold Ψ at h
 split at h
 ·rename_i hc
  simp only[j_]at hc;exact⟨hc.1.1,hc.1.2,hc.2,h⟩
 ·cases h
theorem zo0(h:Ψ e m=some e'):
  ∃ k pre rest t p q V part,zke e m k pre rest t p q/\m.at_=k/\k<e.length/\Α p t zc2=some V/\Γ q V=some part/\e'=pre++part++rest/\e'.length<=40/\ν e'=true:=by
 obtain⟨h1,h2,h3,h4⟩:=zsl h;simp only[inB,j_,t_]at h3;obtain⟨k,hk⟩:∃ k:Nat,m.at_=k:=⟨m.at_.toNat,by omega⟩;have hlt:k<e.length:=by omega
 obtain⟨pre,rest,t,p,q,hM⟩:=zng h1 h2 hk hlt;rw[hM.mv]at h;rw[M_]at h;obtain⟨part,g1,g2⟩:=h;rw[M_]at g1;obtain⟨V,g3,g4⟩:=g1
 split at g2
 ·rename_i hl
  injection g2 with g2;subst g2;refine⟨k,pre,rest,t,p,q,V,part,hM,hk,hlt,g3,g4,rfl,hl,?_⟩;rw[(hM.val V part g3 g4).2.2];exact b6_ hl
 ·cases g2
theorem zj5(h:Ψ e m=some e'):ν e'=true:=by
 obtain⟨_,_,_,_,_,_,_,_,_,_,_,_,_,_,_,h⟩:=zo0 h;exact h
theorem zze(hb:m.back=false)(hn:m.which.toNat∈zdk)(h:Ψ e m=some e'):e'.length<e.length:=by
 obtain⟨k,pre,rest,t,p,q,V,part,hM,hk,hlt,g3,g4,rfl,_,_⟩:=zo0 h;have h1:=(zjk p t zc2 V rfl hM.pok hM.ok g3);have h2:=h1.2.2;rw[hM.from_,hb]at h2;rw[hM.to_,hb]at g4;have:=zuh _ hn V _ _ h1.1 h2 g4;rw[hM.eq];simp only[n_];omega
def zjn(e:List Int):List Mv:=(List.range e.length).flatMap λat_=>zdk.map λn=>⟨(n:Nat),false,(at_:Nat)⟩
def zcd(e:List Int):List Mv->Option (Mv × List Int)
 | []=>none
 | m :: r=>match Ψ e m with
  | some x=>some (m,x)
  | none=>zcd e r
def zb8(e:List Int):Option (Mv × List Int):=zcd e (zjn e)
theorem zrh:∀ {l:List Mv} {m:Mv} {x:List Int},zcd e l=some (m,x)->m∈l/\Ψ e m=some x
 | [],m,x,h=>by cases h
 | c :: r,m,x,h=>by
  rw[zcd]at h;cases hc:Ψ e c with
  | some y=>
   rw[hc]at h;injection h with h;injection h with h1 h2;subst h1 h2;exact⟨au_ ..,hc⟩
  | none=>
   rw[hc]at h;obtain⟨h1,h2⟩:=zrh h;exact⟨cf_ _ h1,h2⟩
theorem zyb(h:m∈zjn e):m.back=false/\m.which.toNat∈zdk/\∃ k:Nat,m.at_=k/\k<e.length:=by
 simp only[zjn,List.mem_flatMap,c8_,aa_]at h;obtain⟨k,hk,n,hn,rfl⟩:=h;exact⟨rfl,hn,k,rfl,hk⟩
theorem zh6(h:zb8 e=some (m,x)):Ψ e m=some x/\m.back=false/\x.length<e.length/\ν x=true:=by
 obtain⟨h1,h2⟩:=zrh h;obtain⟨h3,h4,_⟩:=zyb h1;exact⟨h2,h3,zze h3 h4 h2,zj5 h2⟩
def zdy:Nat->List Int->List Mv × List Int
 | 0,e=>([],e)
 | n+1,e=>match zb8 e with
  | none=>([],e)
  | some (m,x)=>(m :: (zdy n x).1,(zdy n x).2)
def zan(e:List Int):List Mv × List Int:=zdy e.length e
theorem zks:∀ n,zdy n []=([],[])
 | 0=>rfl
 | n+1=>by simp[zdy,zb8,zjn,zcd]
theorem zoi:∀ (n:Nat) (e:List Int),e.length<=n->∀ n',e.length<=n'->zdy n e=zdy n' e
 | 0,e,h,n',_=>by
  obtain rfl:=A_ (show e.length=0 by omega);rw[zks,zks]
 | n+1,e,h,0,h'=>by
  obtain rfl:=A_ (show e.length=0 by omega);rw[zks,zks]
 | n+1,e,h,n'+1,h'=>by
  rw[zdy,zdy];cases hf:zb8 e with
  | none=>rfl
  | some p=>
   obtain⟨m,x⟩:=p;obtain⟨_,_,hx,_⟩:=zh6 hf;simp only[zoi n x (by omega) n' (by omega)]
theorem zkt(h:zb8 e=none):zan e=([],e):=by
 unfold zan;cases hl:e.length with
 | zero=>rfl
 | succ k=>rw[zdy,h]
theorem zjo(h:zb8 e=some (m,x)):zan e=(m :: (zan x).1,(zan x).2):=by
 obtain⟨_,_,hx,_⟩:=zh6 h;unfold zan;cases hl:e.length with
 | zero=>omega
 | succ k=>
  rw[zdy,h];simp only[zoi k x (by omega) x.length (le_ _)]
theorem zkd:∀ (n:Nat) (e:List Int),e.length<=n->(zan e).1.length+(zan e).2.length<=e.length
 | 0,e,h=>by
  obtain rfl:=A_ (show e.length=0 by omega);simp[zan,zdy]
 | n+1,e,h=>by
  cases hf:zb8 e with
  | none=>rw[zkt hf];simp
  | some p=>
   obtain⟨m,x⟩:=p;obtain⟨_,_,hx,_⟩:=zh6 hf;rw[zjo hf];have:=zkd n x (by omega);simp;omega
def zay:List Int->List Mv->Option (List Int)
 | e,[]=>some e
 | e,m :: r=>(Ψ e m).bind λx=>zay x r
def υ(e:List Int)(ms:List Mv):Option (List Int):=if ν e&&decide (ms.length<=60) then zay e ms else none
theorem zml:∀ (a b:List Mv) (e:List Int),zay e (a++b)=(zay e a).bind λx=>zay x b
 | [],b,e=>rfl
 | m :: r,b,e=>by
  simp only[aj_,zay,Option.bind_assoc]
  congr 1
  funext x
  exact zml r b x
theorem zqa:∀ (ms:List Mv) (e x:List Int),ν e=true->zay e ms=some x->ν x=true
 | [],e,x,h,hr=>by injection hr with hr;subst hr;exact h
 | m :: r,e,x,h,hr=>by
  rw[zay,M_]at hr;obtain⟨y,h1,h2⟩:=hr;exact zqa r y x (zj5 h1) h2
theorem zr8:∀ (n:Nat) (e:List Int),e.length<=n->zay e (zan e).1=some (zan e).2
 | 0,e,h=>by
  obtain rfl:=A_ (show e.length=0 by omega);simp[zan,zdy,zay]
 | n+1,e,h=>by
  cases hf:zb8 e with
  | none=>rw[zkt hf];rfl
  | some p=>
   obtain⟨m,x⟩:=p;obtain⟨h1,_,hx,_⟩:=zh6 hf;rw[zjo hf];simp only[zay,h1,ab_];exact zr8 n x (by omega)
theorem zcb(h:ν e=true):1<=e.length/\e.length<=40:=by
 simp only[ν,j_,t_]at h;exact h.1
theorem z0n(h:ν e=true):υ e (zan e).1=some (zan e).2:=by
 have h1:=zkd _ e (le_ _);have h2:=(zcb h).2;unfold υ;rw[h,b6_ (by omega),zr8 _ e (le_ _)];rfl
theorem zh2(h:υ e ms=some x):ν x=true:=by
 unfold υ at h
 split at h
 ·rename_i hc
  simp only[j_]at hc;exact zqa ms e x hc.1 h
 ·cases h
theorem zcs.rd {a b:Value}(h:zcs lo hi w a b L R)(hh:hi<=w):RdI w a L/\RdI w b R:=by
 obtain⟨m,h1,h2,h3,h4⟩:=h;exact⟨h3.sl.wide (aw_ _) (by omega),h4.sl.wide (aw_ _) hh⟩
theorem zzb(ve:Value)(e:List Int)(n:Nat)(bk:Bool)(k:Nat)(w:World)(he:RdI w ve e)(hn21:n<21)(hv:ν e=true)(hlt:k<e.length)(pre rest:List Int)(t p:KT)(q:List Int)(hM:zke e ⟨n,bk,k⟩ k pre rest t p q):
  Calls prog 99 #[ve,.agg #[.int .i64 n,.bool bk,.int .i64 k]] w (za8 (zbt w (Ψ e ⟨n,bk,k⟩))):=by
 have HM:=H_ hM;have hel40:=hM.el;have hel:e.length<=1048576:=by omega
 have hisr:isR (n:Int)=true:=by simp[isR,inB];omega
 have HV:=H_ hv;have HIR:=H_ hisr;clear hM hv hisr;have⟨w0,hw0⟩:=xa_ w #[.int .i64 n,.bool bk,.int .i64 k] 67;have hb0:Below w w w0:=by rw[hw0];exact(B_ _ _).alloc (le_ _) _
 have hs0:w0=w.heap.size+1:=by rw[hw0];simp
 have K:=H_ (show Blk w (.cells #[.int .i64 n,.bool bk,.int .i64 k] 67) w0 by rw[hw0];exact κ w _);have HB:=H_ hb0;have HE:=H_ (he.below hb0);have HW0:=H_ hw0;obtain⟨ea,ecap,rfl,hec,hecm,_⟩:=he.open;have c0:=K.o.cell 0;clear he hb0 hw0
 go_enter func99,ntmps99
 go_wp2_with fail
 simp only[<-HW0.o];go_wp2_with fail
 refine(zov n _).mono ?_;rintro e1 w1 ⟨ra,rb,rc,rfl,hrc,hb1,hrule⟩;obtain⟨la,ln,lc,rfl⟩:∃ x l c,ra=.slice x l c:=by obtain⟨_,_,_,h3,_⟩:=hrule;obtain⟨x,c,h,_⟩:=θ h3;exact⟨x,_,c,h⟩
 obtain⟨lb,lm,ld,rfl⟩:∃ x l c,rb=.slice x l c:=by obtain⟨_,_,_,_,h3⟩:=hrule;obtain⟨x,c,h,_⟩:=θ h3;exact⟨x,_,c,h⟩
 have⟨wa,hwa⟩:=xa_ w1 #[(),()] 161;have KA:Blk w1 (.cells #[(),()] 161) wa:=by rw[hwa];exact κ w1 _
 have HWA:=H_ hwa;obtain⟨r0,r1⟩:=KA.c2;obtain⟨f0,f1⟩:=KA.f2;have⟨w2,hw2⟩:=x2_ wa w1 (.slice la ln lc) (.slice lb lm ld);have KR:=H_ (show Blk w1 _ w2 by rw[hw2];exact KA.set2 (.slice la ln lc) (.slice lb lm ld));have hba:Below w1 w1 wa:=by rw[hwa];exact(B_ _ _).alloc (le_ _) _
 have hsa:wa=w1.heap.size+1:=by rw[hwa];simp
 have hb2:Below w1 w1 w2:=by rw[hw2];exact ε hba (β.set2 _ _ _ _) (le_ _) (by omega)
 have HW2:=H_ hw2;have hs1:=hb1.size;have hs2:=hb2.size;have HRU:=H_ (hrule.below hb2 (le_ _));have HB2:=H_ ((HB.o.trans (hb1.mono HB.o.size)).trans (hb2.mono (by omega)));have K2:=H_ ((K.o.below hb1 K.o.lt).below hb2 (by have:=K.o.lt;omega));have HE2:=H_ ((HE.o.below hb1).below hb2);have HRC:=H_ hrc;clear hwa KA hw2 hb2 hba hb1 hrule hrc HE K HB c0;go_wp2_with (first | rw[<-HWA.o] | rw[<-HW2.o])
 refine(zag 0 _ _ e _ HE2.o hel).mono ?_;rintro e2 wx ⟨rfl,rfl⟩;clear r0 r1 f0 f1;have hrc:=HRC.o;rw[HIR.o]at hrc;subst hrc;have HRN:=H_ (show zdr n true=Ν n true/\zdr n false=Ν n false by unfold zdr;rw[HIR.o];exact⟨by simp,by simp⟩);have HRD:=H_ (HRU.o.rd hs2);rw[HRN.o.1,HRN.o.2]at HRD;have hin:inB (k:Int) 0 ((e.length:Int)-1)=true:=by simp[inB];omega
 rw[HV.o];have c1:=K2.o.cell 1;have c2:=K2.o.cell 2;have⟨q0,q1⟩:=KR.o.c2;obtain⟨eb,eoff,rfl⟩:=SlI.notNil HE2.o (by omega);have HF:Q_ (p.post=Ν n (!bk)):=H_ HM.o.from_;have HT:Q_ (q=Ν n bk):=H_ HM.o.to_;have hkeq:=HM.o.keq;have htsz:=HM.o.sz;have htpos:=t.size_pos;have hpsz:=HM.o.psz;have hql:=HM.o.ql;have HSP:=H_ HM.o.span;clear HRU HRC HIR HV;unfold maxLen at hecm;cases bk
 all_goals (
  first | have HFT:=H_ (zrl HRD.o HF.o HT.o) | have HFT:=H_ (zp9 HRD.o HF.o HT.o)
  obtain rfl:=HFT.o.1.len';obtain rfl:=HFT.o.2.len';clear HRD;go_wp2_with (go_at_call 101;refine(za0 _ _ _ _).mono ?_;rintro e w' ⟨rfl,rfl⟩)
  refine(znz 0 _ _ e k t.size w2 HE2.o hel hlt HSP.o).mono ?_;rintro e3 wx ⟨x1,rfl,hx1,_,rfl⟩;obtain rfl:x1=(pre.length:Int):=by omega
  have⟨w5,hw5⟩:=ex_ ((((w2.alloc (.cells #[] 3)).alloc (.cells #[] 3)).alloc (.cells #[] 3)).alloc (.cells #[.slice (q_ w2 0) 0 0,.slice (q_ (w2+1) 0) 0 0,.slice (q_ (w2+2) 0) 0 0] 22));have hb5:Below w2 w2 w5:=by rw[hw5];exact((((B_ _ _).alloc (le_ _) _).alloc (by simp) _).alloc (by simp;omega) _).alloc (by simp;omega) _
  have hz5:w5=w2.heap.size+4:=by rw[hw5];simp
  have HRV:=H_ (zv8 w2 w5 (w2+3) (by
   rw[hw5];have h:=κ (((w2.alloc (.cells #[] 3)).alloc (.cells #[] 3)).alloc (.cells #[] 3)) (.cells #[.slice (q_ w2 0) 0 0,.slice (q_ (w2+1) 0) 0 0,.slice (q_ (w2+2) 0) 0 0] 22)
   simpa using h))
  have z0:k+1-pre.length=t.size:=by omega
  have HPT:Q_ (RdI w5 (.slice (q_ eb (eoff+pre.length)) t.size (ecap-pre.length)) t.post):=by
   have h:=HE2.o.sub pre.length (k+1) (by omega) (by omega);rw[z0]at h;have h2:(e.drop pre.length).take t.size=t.post:=by rw[HM.o.eq,Z_,ch_,<-t.post_length,bl_]
   rw[h2]at h;exact H_ (zfh h hb5)
  have HB5:=H_ (HB2.o.trans (hb5.mono (by have:=HB2.o.size;omega)));have HE5:=H_ (HE2.o.below hb5);have K5:=K2.kb hb5;have HFT5:=H_ (a_ (HFT.o.1.below hb5) (HFT.o.2.below hb5));have HW5:=H_ hw5;have⟨z1,z2,z3,z4,z5,z6⟩:(0:Int)<=(k:Int)+1/\(pre.length:Int)<=(k:Int)+1/\(k:Int)+1<=ecap/\((k:Int)+1).toNat=k+1/\pre.length<=k+1/\k+1<=ecap:=by omega
  have⟨z7,z8⟩:((k:Int)+1-pre.length).toNat=t.size/\¬ecap=pre.length:=by omega
  clear hw5 hb5 HE2 K2 HFT HB2 KR q0 q1 c1 hx1;go_wp2_with (first | rw[<-HW5.o])
  refine(zjw p HM.o.pok (by omega) t zc2 w5 _ _ _ HM.o.ok htsz GV.zero HFT5.o.1 HPT.o HRV.o).mono ?_;rintro e6 w6 ⟨v6,b6,rfl,hb6,rfl,V6,hg6,hr6,hx6⟩;have hs6:=hb6.size;have HB6:=HB5.ts hb6;have HE6:=H_ (HE5.o.below hb6);have K6:=K5.kb hb6;have HT6:=H_ (HFT5.o.2.below hb6);have HX6:=H_ hx6;have HG6:=H_ hg6;obtain⟨gb,go,gc,rfl,_⟩:=hr6.get;have HR6:=H_ hr6;clear hb6 hr6 hx6 hg6 HPT HRV HFT5 HE5 K5 HB5 z0 z1 z2 z3 z4 z5 z6 z7 z8 c2;go_wp2_with fail
  refine(zux q V6 w6 _ _ HM.o.qlo (by omega) HG6.o HT6.o HR6.o).mono ?_;rintro e7 w7 ⟨v7,b7,rfl,hb7,rfl,⟨l7,hl7⟩,ho7⟩;obtain⟨a7,n7,c7,rfl⟩:∃ a n c,v7=.slice a n c:=by obtain⟨a,c,h,_⟩:=π hl7;exact⟨a,_,c,h⟩
  have hs7:=hb7.size;have HB7:=HB6.ts hb7;have HE7:=H_ (HE6.o.below hb7);have K7:=K6.kb hb7;have HO7:=H_ ho7;have hszw:=HB7.o.size;clear hb7 HE6 K6 HB6 HR6 HT6 ho7;cases hres:Α p t zc2 with
  | none=>
   have HR:Q_ (Ψ e ⟨n,_,k⟩=none):=H_ (by rw[HM.o.mv,hres];rfl);clear hres HX6;simp only[a8_];go_wp2;refine d_ (v:=.tuple #[.slice (q_ w7 0) 0 0,.bool false]) (by simp[results,results99,go_sem]) rfl ⟨_,_,rfl,?_⟩;rw[HR.o];exact zbt.fail HB7.o
  | some V=>
   obtain rfl:V6=V:=HX6.o V hres;have HR:=H_ (HM.o.mv);rw[hres,ab_]at HR;have HVAL:=H_ (λx hx=>HM.o.val V6 x hres hx);clear hres HX6;simp only[a0_];cases hfil:Γ q V6 with
   | none=>
    rw[hfil]at HR;have HRN2:Q_ (Ψ e ⟨n,_,k⟩=none):=H_ (by rw[HR.o];rfl);clear hfil HO7;simp only[a8_];go_wp2;refine d_ (v:=.tuple #[.slice (q_ w7 0) 0 0,.bool false]) (by simp[results,results99,go_sem]) rfl ⟨_,_,rfl,?_⟩;rw[HRN2.o];exact zbt.fail HB7.o
   | some x=>
    rw[hfil,ab_]at HR;obtain⟨hx1,hx2,hx3⟩:=HVAL.o x hfil;have ho:=HO7.o x hfil;obtain rfl:=ho.sl.len';clear hfil;simp only[a0_];obtain⟨g7,o7,rfl⟩:=SlI.notNil ho.sl (by omega)
    have hrl:rest.length=e.length-(k+1):=by
     have h:=congrArg List.length HM.o.eq;simp only[n_,t.post_length]at h;omega
    have hrest:e.drop (k+1)=rest:=by
     rw[show k+1=(pre++t.post).length by rw[n_,t.post_length];omega,HM.o.eq,ch_]
    have HPRE:=H_ (show RdI w7 (.slice (q_ eb eoff) pre ecap) pre by
     (have h:=SlI.take HE7.o pre.length (by omega))
     rwa [show e.take pre.length=pre by rw[HM.o.eq,Z_,bl_]]at h)
    (have HTL:=H_ (HE7.o.dropI (k+1) (by omega));rw[hrest,<-hrl]at HTL;have HX:=H_ ho;have HK:=H_ (a_ hx2 hx3);have hx16:x.length<=1600:=hx2;have c2:=K7.o.cell 2;have⟨z1,z2,z3,z4,z5,z6⟩:((k:Int)+1).toNat=k+1/\(0:Int)<=(k:Int)+1/\(k:Int)+1<=e.length/\(k:Int)+1<=ecap/\((e.length:Int)-((k:Int)+1)).toNat=rest.length/\k+1<=e.length:=by omega);(have⟨z7,z8,y1,y2,y3⟩:k+1<=ecap/\e.length-(k+1)=rest.length/\(pre.length:Int)<=ecap/\pre.length<=ecap/\pre.length<=40:=by omega);(have y4:IntKind.i64.wrap ((k:Int)+1)=(k:Int)+1:=by simp[IntKind.wrap,IntKind.bits,IntKind.signed];omega);(have hc7:w7.drew.cell? (p_ w 2)=some (.int .i64 k):=c2;clear ho hx1 hx2 hx3 HO7 HVAL hrest c2;go_wp2_with fail);(have⟨y5,y6,y7⟩:(0:Int)<=(pre.length:Int)/\(e.length:Int)<=ecap/\(0:Int)<=(e.length:Int):=by omega);(have HRL:=H_ hrl;clear hrl;have⟨w8,hw8⟩:=ex_ ((w7.alloc (.cells #[] 3)).drew);have hb8:Below w7 w7 w8:=by rw[hw8];exact((B_ _ _).alloc (le_ _) _).drew);(have hs8:w8=w7.heap.size+1:=by rw[hw8];exact μ _ _);(have HOL:Q_ (Own 1 w7 (w7+1) 3 w8 (.slice (q_ w7 0) 0 0) 0 (δ [])):=by rw[hw8];exact H_ (ς 1 3 w7 (δ []) 0 (by omega) rfl));(have hc8:(w7.alloc (.cells #[] 3)).drew.cell? (p_ w 2)=some (.int .i64 k):=by rw[<-hw8,hb8.cell (p:=p_ w 2) K7.o.lt];exact hc7);(have HW8:=H_ hw8;have H8:=H_ hb8;have hkl7:=K7.o.lt;clear hb8 hw8;have hcases:ecap=k+1\/¬ecap=k+1:=by omega);rcases hcases with hcs|hcs
    all_goals (
     (have HT2:=HTL.o)
     first | rw[x_ hcs,hcs,be_] at HT2 | rw[m_ hcs] at HT2
     (have HT3:=H_ HT2;clear HT2;have zz:(pre.length:Int)<=(k:Int)+1:=by omega)
     try subst hcs
     go_region_held3 (λw'=>w'.cell? (p_ w 2)=some (.int .i64 k)) (first | assumption | go_keep) (first
      | (rw[<-HW8.o];refine zhv (by rfl) _ _ 22 (by rfl) 3 (0:Int) 1 8 underlying22 ω (by rfl) (by decide) (by decide) (by rfl) (HOL.o) (by rfl) (zjb HPRE.o H8.o (le_ _)) (Ι _) (by omega) (by omega) ?_;intro v9 w9 ho9 hout9;(have hs9:=hout9.size);(have hc9:w9.cell? (p_ w 2)=some (.int .i64 k):=(ag_ (w:=w8) (a:=p_ w 2) (hout9.block w (by omega) (.inl hkl7))).trans (by rw[HW8.o];exact hc8));(have HO9:=H_ ho9);(have H9:=H_ (ε H8.o hout9 (le_ _) H8.o.size));clear ho9 hout9)
      | (refine zhv (by rfl) _ _ 22 (by rfl) 3 (0:Int) 1 8 underlying22 ω (by rfl) (by decide) (by decide) (by rfl) (HO9.o) (by rfl) (zjb (γ.sl HX.o) H9.o (le_ _)) (Ι _) (by omega) (by omega) ?_;intro v10 w10 ho10 hout10;(have hs10:=hout10.size);(have hc10:w10.cell? (p_ w 2)=some (.int .i64 k):=(ag_ (w:=w9) (a:=p_ w 2) (hout10.block w (by omega) (.inl hkl7))).trans hc9);(have HO10:=H_ ho10);(have H10:=H_ (ε H9.o hout10 (le_ _) H9.o.size));clear ho10 hout10)
      | (refine zhv (by rfl) _ _ 22 (by rfl) 3 (0:Int) 1 8 underlying22 ω (by rfl) (by decide) (by decide) (by rfl) (HO10.o) (by rfl) (zjb HT3.o H10.o (le_ _)) (Ι _) (by omega) (by omega) ?_;intro v11 w11 ho11 hout11;(have hs11:=hout11.size);(have hc11:w11.cell? (p_ w 2)=some (.int .i64 k):=(ag_ (w:=w10) (a:=p_ w 2) (hout11.block w (by omega) (.inl hkl7))).trans hc10);(have HO11:=H_ ho11);(have H11:=H_ (ε H10.o hout11 (le_ _) H10.o.size));clear ho11 hout11))
     have HOU:Q_ (γ w7 w11 3 w11 v11 (pre++x++rest)):=by
      refine H_ ?_;have h:=HO11.o;simp only[U_,<-zaa,ad_]at h;exact γ.len h (by simp only[n_])
     (have hlen11:(pre++x++rest).length=pre.length+x.length+rest.length:=by simp only[n_]);(have HB11:=HB7.tr H11.o hszw;have hkv:=HK.o.2;have hbg:(pre++x++rest).length<=1048576:=by omega);generalize pre++x++rest=out at HOU HR hkv hlen11 hbg;obtain⟨a11,c11,rfl,_⟩:=θ HOU.o;have HKV:=H_ hkv;have HLL:=H_ hlen11;clear HO11 HO10 HO9 H8 H9 H10 hc11 hc10 hc9 hc8 hkv hlen11;go_wp2_with fail
     refine(zag _ _ _ out _ HOU.o.sl hbg).mono ?_;rintro e12 wx ⟨rfl,rfl⟩;rw[HKV.o];by_cases hbig:out.length<=40
     ·(have hd:=b6_ hbig);have HR2:=H_ (HR.o.trans (x_ hbig));rw[hd];clear hd hbig;go_wp2;refine d_ (v:=.tuple #[.slice a11 out c11,.bool true]) (by simp[results,results99,go_sem]) rfl ⟨_,_,rfl,?_⟩;rw[HR2.o];exact⟨HB11.o,rfl,za3 HOU.o hszw (le_ _)⟩
     ·(have hd:=ec_ hbig);have HR2:=H_ (HR.o.trans (m_ hbig));rw[hd];clear hd hbig;go_wp2;refine d_ (v:=.tuple #[.slice (q_ w11 0) 0 0,.bool false]) (by simp[results,results99,go_sem]) rfl ⟨_,_,rfl,?_⟩;rw[HR2.o];exact zbt.fail HB11.o))
theorem zj0(ve:Value)(e:List Int)(m:Mv)(w:World)(he:RdI w ve e)(hel:e.length<=1048576):
  Calls prog 99 #[ve,ziw m] w (za8 (zbt w (Ψ e m))):=by
 cases hc:(ν e&&isR m.which&&inB m.at_ 0 (e.length-1))
 ·exact z1p e m ve w he hel hc
 ·simp only[j_]at hc
  obtain⟨⟨hv,hr⟩,ha⟩:=hc;obtain⟨k,hk,hlt⟩:∃ k:Nat,m.at_=k/\k<e.length:=⟨m.at_.toNat,by simp[inB] at ha;omega,by simp[inB] at ha;omega⟩;obtain⟨n,hn,hn21⟩:∃ n:Nat,m.which=n/\n<21:=⟨m.which.toNat,by simp[isR,inB] at hr;omega,by simp[isR,inB] at hr;omega⟩;obtain⟨pre,rest,t,p,q,hM⟩:=zng hv hr hk hlt;obtain⟨wh,bk,at_⟩:=m;subst hk hn;exact zzb ve e n bk k w he hn21 hv hlt pre rest t p q hM
theorem zsk(k:Nat)(h:k<ms.length):zay x (ms.drop k)=(Ψ x ms[k]).bind λy=>zay y (ms.drop (k+1)):=by
 rw[y_ h,zay]
theorem zo2(k:Nat)(h:ms.length<=k):zay x (ms.drop k)=some x:=by
 rw[az_ h,zay]
theorem Blk.set3 {g:Nat} {e:TypeId} {x0 x1 x2:Value}(h:Blk g (.cells #[x0,x1,x2] e (0,0)) w)(a b c:Value):
  Blk g (.cells #[a,b,c] e (0,0)) (((w.setCell (p_ g 0) a).setCell (p_ g 1) b).setCell (p_ g 2) c):=by
 have h':w.heap[g]?=_:=h
 show (((w.setCell (p_ g 0) a).setCell (p_ g 1) b).setCell (p_ g 2) c).heap[g]?=_
 simp[World.setCell,V_,h']
theorem β.set3(g:Nat)(w:World)(a b c:Value):β g (g+1) w (((w.setCell (p_ g 0) a).setCell (p_ g 1) b).setCell (p_ g 2) c):=
 (((β.refl _ _ _).setCell (p:=p_ g 0) (le_ _) (D_ _) _).setCell (p:=p_ g 1) (le_ _) (D_ _) _).setCell (p:=p_ g 2) (le_ _) (D_ _) _
theorem zbt.nil(hb:Below w w w'):zbt w none () false w':=⟨hb,rfl,Ω _ _ _ _ _⟩
theorem znn(lo hi lo' hi':Nat)(ve vm:Value)(e:List Int)(ms:List Mv)(w:World)(hE:zax w)(hx:SlI lo hi w ve e)(hm:e.length<=1048576)(hms:SlM lo' hi' w vm ms)(hml:ms.length<=1048576):
  Calls prog 70 #[ve,vm] w (za8 (zbt w (υ e ms))):=by
 have HX:=H_ hx;have HE:=H_ hE;have HMS:=H_ hms;obtain⟨ma,mcap,rfl,hmc,hmm⟩:=hms.shape;obtain⟨ea,ecap,rfl,_⟩:=hx.open;unfold maxLen at hmm;clear hx hE hms;cases hkv:ν e
 ·have HR:Q_ (υ e ms=none):=H_ (by simp[υ,hkv])
  go_enter func70,ntmps70
  go_wp2_with fail
  refine(zc3 _ _ _ e _ HX.o hm).mono ?_;rintro e1 w1 ⟨rfl,rfl⟩;rw[hkv];go_wp2
  go_ret2
  exact⟨_,_,rfl,by rw[HR.o];exact zbt.nil (B_ _ _)⟩
 by_cases hbig:60<ms.length
 ·have HR:Q_ (υ e ms=none):=H_ (by simp[υ,hkv];omega)
  go_enter func70,ntmps70
  go_wp2_with fail
  refine(zc3 _ _ _ e _ HX.o hm).mono ?_;rintro e1 w1 ⟨rfl,rfl⟩;rw[hkv];go_wp2
  go_ret2
  exact⟨_,_,rfl,by rw[HR.o];exact zbt.nil (B_ _ _)⟩
 ·have HR:Q_ (υ e ms=zay e ms):=H_ (by simp[υ,hkv];omega)
  have HKV:=H_ hkv
  go_enter func70,ntmps70
  go_wp2_with fail
  refine(zc3 _ _ _ e _ HX.o hm).mono ?_;rintro e1 w1 ⟨rfl,rfl⟩;rw[hkv];clear hkv;go_wp2_with fail
  refine(zdo _ _ _ e _ HX.o hm).mono ?_;rintro e2 w2 ⟨v2,rfl,hb2,ho2⟩;have HB2:=H_ hb2;have HO2:=H_ ho2;clear hb2 ho2;go_wp2;go_loopw [6,23] (λv i wr=>∃ (k:Nat) (x:List Int),k<=ms.length/\i=.int .i64 k/\Q_ (γ w wr 3 wr v x/\Below w w wr/\ν x=true/\zay e ms=zay x (ms.drop k))) (λ_ i _=>ms.length-(intOf i).toNat)
  case atStart=>exact⟨0,e,by omega,rfl,H_ ⟨HO2.o,HB2.o,HKV.o,by rw[ci_]⟩⟩
  case round=>
   obtain⟨k,x,hk,rfl,HQ⟩:=hrel;obtain⟨oa,oc,rfl,_⟩:=θ HQ.o.1;have HB:=H_ HQ.o.2.1;have hsz:=HB.o.size;by_cases hlt:k<ms.length
   ·(obtain⟨b,off,rfl,_,_,hbs,g1,g2,g3⟩:=HMS.o.get k hlt);(obtain⟨m,hm'⟩:∃ m,m=ms[k]:=⟨_,rfl⟩;rw[<-hm']at g1 g2 g3;have hcellb:∀ j,wr.cell? (p_ b j)=w.cell? (p_ b j):=λj=>HB.o.cell (p:=p_ b j) hbs);rw[<-hcellb]at g1 g2 g3;have HST:=H_ (HQ.o.2.2.2.trans (zsk k hlt));rw[<-hm']at HST;clear hcellb hm';go_wp2_with fail
    (have⟨w1,hw1⟩:=xa_ wr #[.int .i64 m.which,.bool m.back,.int .i64 m.at_] 67;have hb1:Below wr wr w1:=by rw[hw1];exact(B_ _ _).alloc (le_ _) _);simp only[<-hw1];have HB1:=HB.tr hb1 hsz;have HX1:=H_ (zfh (zd0 HQ.o.1.sl (le_ _)) hb1);have hs1:=HB1.o.size;clear hw1 hb1 g1 g2 g3;refine(zln _ x m w1 (HE.o.below HB1.o) HX1.o HQ.o.2.2.1).mono ?_;rintro e3 w3 ⟨v3,x3,rfl,hb3,hres⟩;have HB3:=HB1.tr hb3 hs1;cases hmv:Ψ x m with
    | none=>
     rw[hmv]at hres HST;obtain⟨rfl,g,rfl,_⟩:=hres;have HR2:Q_ (υ e ms=none):=H_ (HR.o.trans HST.o);clear hmv;go_wp2
     go_ret2
     exact⟨_,_,rfl,by rw[HR2.o];exact zbt.nil HB3.o⟩
    | some y=>
     rw[hmv]at hres HST;obtain⟨rfl,ho3⟩:=hres;have HO3:=H_ (za3 ho3 hs1 (le_ _));have HKY:=H_ (zj5 hmv);obtain⟨ya,yc,rfl,_⟩:=θ ho3;clear hmv ho3 hb3;go_wp2;go_roundw
     (case rel=>exact⟨k+1,y,by omega,by go_num,H_ ⟨HO3.o,HB3.o,HKY.o,HST.o⟩⟩);case measure=>simp[intOf];omega
   ·(obtain rfl:k=ms.length:=by omega);(have HR2:Q_ (υ e ms=some x):=H_ (by rw[HR.o,HQ.o.2.2.2,zo2 _ (le_ _)]);go_wp2);go_ret2
    exact⟨_,_,rfl,by rw[HR2.o];exact⟨HB.o,rfl,HQ.o.1⟩⟩
theorem zo3(h:SlI lo hi w v xs)(o:Obj):SlI lo hi (w.alloc o) v xs:=by
 obtain⟨a,cap,h1,h2,h3,h4,h5,h6⟩:=h;refine⟨a,cap,h1,h2,h3,h4,h5,λi hi'=>?_⟩;obtain⟨b,off,e,e1,e2,e3,e4⟩:=h6 i hi';exact⟨b,off,e,e1,e2,by simp;omega,by rw[World.cell?_alloc_lt _ _ (p_ b (off+i)) e3];exact e4⟩
theorem zma(lo hi lo' hi':Nat)(ve vm:Value)(e:List Int)(ms:List Mv)(w:World)(hx:SlI lo hi w ve e)(hm:e.length<=1048576)(hms:SlM lo' hi' w vm ms)(hml:ms.length<=1048576):
  Calls prog 63 #[ve,vm] w (za8 (zbt w (υ e ms))):=by
 have HX:=H_ hx;have HMS:=H_ hms;obtain⟨ma,mcap,rfl,hmc,hmm⟩:=hms.shape;obtain⟨ea,ecap,rfl,_⟩:=hx.open;unfold maxLen at hmm;clear hx hms;cases hkv:ν e
 ·have HR:Q_ (υ e ms=none):=H_ (by simp[υ,hkv])
  go_enter func63,ntmps63
  go_wp2_with fail
  refine(zag _ _ _ e _ HX.o hm).mono ?_;rintro e1 w1 ⟨rfl,rfl⟩;rw[hkv];go_wp2
  go_ret2
  exact⟨_,_,rfl,by rw[HR.o];exact zbt.fail (B_ _ _)⟩
 by_cases hbig:60<ms.length
 ·have HR:Q_ (υ e ms=none):=H_ (by simp[υ,hkv];omega)
  go_enter func63,ntmps63
  go_wp2_with fail
  refine(zag _ _ _ e _ HX.o hm).mono ?_;rintro e1 w1 ⟨rfl,rfl⟩;rw[hkv];go_wp2
  go_ret2
  exact⟨_,_,rfl,by rw[HR.o];exact zbt.fail (B_ _ _)⟩
 ·have HR:Q_ (υ e ms=zay e ms):=H_ (by simp[υ,hkv];omega)
  have HKV:=H_ hkv;have HOL:Q_ (Own 1 w (w+1) 3 (w.alloc (.cells #[] 3)) (.slice (q_ w 0) 0 0) 0 (δ [])):=H_ (ς 1 3 w (δ []) 0 (by omega) rfl);have HA:=H_ ((B_ w w).alloc (le_ _) (.cells #[] 3));have HXA:=H_ ((zo3 HX.o) (.cells #[] 3))
  go_enter func63,ntmps63
  go_wp2_with fail
  refine(zag _ _ _ e _ HX.o hm).mono ?_;rintro e1 w1 ⟨rfl,rfl⟩;rw[hkv];clear hkv;go_wp2_with (at_builtin;go_loud (refine Μ rfl _ _ 22 rfl 3 (0:Int) 1 8 underlying22 ω rfl (by decide) (by decide) rfl HOL.o rfl HXA.o (Ι _) (by omega) (by simp) ?_))
  intro v2 w2 ho2 _ hout2 _
  have HO2:Q_ (γ w w2 3 w2 v2 e):=by
   have h:=ho2;simp only[<-zaa,ad_]at h;exact H_ h
  have HB2:=H_ (ε HA.o hout2 (le_ _) (by simp));obtain⟨a2,c2,rfl,_⟩:=θ HO2.o;clear ho2 hout2 HXA HOL HA;go_wp2;go_loopw [6,7] (λv i wr=>∃ (k:Nat) (x:List Int),k<=ms.length/\i=.int .i64 k/\Q_ (γ w wr 3 wr v x/\Below w w wr/\ν x=true/\zay e ms=zay x (ms.drop k))) (λ_ i _=>ms.length-(intOf i).toNat)
  case atStart=>exact⟨0,e,by omega,rfl,H_ ⟨HO2.o,HB2.o,HKV.o,by rw[ci_]⟩⟩
  case round=>
   obtain⟨k,x,hk,rfl,HQ⟩:=hrel;obtain⟨oa,oc,rfl,_⟩:=θ HQ.o.1;have HB:=H_ HQ.o.2.1;have hsz:=HB.o.size;by_cases hlt:k<ms.length
   ·(obtain⟨b,off,rfl,_,_,hbs,g1,g2,g3⟩:=HMS.o.get k hlt);(obtain⟨m,hm'⟩:∃ m,m=ms[k]:=⟨_,rfl⟩;rw[<-hm']at g1 g2 g3;have hcellb:∀ j,wr.cell? (p_ b j)=w.cell? (p_ b j):=λj=>HB.o.cell (p:=p_ b j) hbs);rw[<-hcellb]at g1 g2 g3;have HST:=H_ (HQ.o.2.2.2.trans (zsk k hlt));rw[<-hm']at HST;have hxl:=(zcb HQ.o.2.2.1).2;clear hcellb hm';go_wp2_with fail
    refine(zj0 _ x m wr (zd0 HQ.o.1.sl (le_ _)) (by omega)).mono ?_;rintro e3 w3 ⟨v3,b3,rfl,hb3,rfl,ho3⟩;have HB3:=HB.tr hb3 hsz;obtain⟨ya,yc,rfl,_⟩:=θ ho3;cases hmv:Ψ x m with
    | none=>
     rw[hmv]at HST;have HR2:Q_ (υ e ms=none):=H_ (HR.o.trans HST.o);clear hmv ho3;simp only[a8_];go_wp2
     go_ret2
     exact⟨_,_,rfl,by rw[HR2.o];exact zbt.fail HB3.o⟩
    | some y=>
     rw[hmv]at HST ho3;have HO3:=H_ (za3 ho3 hsz (le_ _));have HKY:=H_ (zj5 hmv);clear hmv ho3 hb3 g1 g2 g3;simp only[a0_,ac_];go_wp2;go_roundw
     (case rel=>exact⟨k+1,y,by omega,by go_num,H_ ⟨HO3.o,HB3.o,HKY.o,HST.o⟩⟩);case measure=>simp[intOf];omega
   ·(obtain rfl:k=ms.length:=by omega);(have HR2:Q_ (υ e ms=some x):=H_ (by rw[HR.o,HQ.o.2.2.2,zo2 _ (le_ _)]);go_wp2);go_ret2
    exact⟨_,_,rfl,by rw[HR2.o];exact⟨HB.o,rfl,HQ.o.1⟩⟩
def okV(e f:List Int)(ms:List Mv):Bool:=match υ e ms with | some x=>eqL x f | none=>false
theorem zlg(lo hi l2 h2 lo' hi':Nat)(ve vf vm:Value)(e f:List Int)(ms:List Mv)(w:World)(hE:zax w)(hx:SlI lo hi w ve e)(hm:e.length<=1048576)(hf:SlI l2 h2 w vf f)(hfh:h2<=w)(hfm:f.length<=1048576)(hms:SlM lo' hi' w vm ms)(hml:ms.length<=1048576):
  Calls prog 31 #[ve,vf,vm] w λe1 w'=>e1=.returned (.bool (okV e f ms))/\Below w w w':=by
 have HC:=H_ (znn _ _ _ _ _ _ e ms w hE hx hm hms hml);have HF:=H_ hf;clear hx hms hf
 go_enter func31,ntmps31
 go_wp2_with fail
 refine HC.o.mono ?_;rintro e1 w1 ⟨v1,b1,rfl,hb1,rfl,ho1⟩;have HB:=H_ hb1;have hs1:=hb1.size;have HF1:=H_ (HF.o.below hb1 hfh);clear hb1;cases hp:υ e ms with
 | none=>
  have HR:Q_ (okV e f ms=false):=H_ (by simp[okV,hp]);obtain⟨a1,c1,rfl,_⟩:=θ ho1;clear hp ho1;simp only[a8_];go_wp2;go_ret;exact⟨by rw[HR.o];rfl,HB.o⟩
 | some x=>
  rw[hp]at ho1;have HO:=H_ ho1;obtain⟨a1,c1,rfl,_⟩:=θ ho1;have hx40:=(zcb (zh2 hp)).2;have HR:Q_ (okV e f ms=eqL x f):=H_ (by simp[okV,hp]);have HKX:=H_ (zh2 hp);clear hp ho1;simp only[a0_,ac_];cases hkf:ν f
  ·have HN:Q_ (eqL x f=false):=H_ (by
    rw[zed];refine ec_ λh=>?_
    have:=HKX.o;rw[h,hkf]at this;cases this)
   go_wp2_with fail
   refine(zc3 _ _ _ f _ HF1.o hfm).mono ?_;rintro e2 w2 ⟨rfl,rfl⟩;rw[hkf];go_wp2;go_ret;exact⟨by rw[HR.o,HN.o];rfl,HB.o⟩
  ·go_wp2_with fail
   refine(zc3 _ _ _ f _ HF1.o hfm).mono ?_;rintro e2 w2 ⟨rfl,rfl⟩;rw[hkf];go_wp2_with fail
   refine(zge _ _ _ _ _ _ x f w1 HO.o.sl HF1.o).mono ?_;rintro e3 w3 ⟨rfl,hb3⟩;have HB3:=HB.tr hb3 hs1;clear hb3;go_wp2;go_ret;exact⟨by rw[HR.o];rfl,HB3.o⟩
theorem zd8:(Tryz.prog.info? 67).map (λi=>(i.zero,i.size,i.bytes))=some (some (.agg #[(0:Int),.bool false,(0:Int)]),3,24):=by kernel_rfl
theorem Own.shape {e:Nat} {xs:List Value}(h:Own sz lo hi e w v n xs):∃ a cap,v=.slice a n cap:=by
 obtain⟨a,cap,h,_⟩:=θ h;exact⟨a,cap,h⟩
def η:=@Own.shape
structure Dsk where
 first:List Int
 goal:List Int
 made:List Mv
 now:List Int
deriving DecidableEq
def Dsk.size(d:Dsk):Nat:=d.first.length+d.goal.length+d.made.length+d.now.length
structure Θ(lo hi:Nat)(w:World)(a b c d:Value)(D:Dsk):Prop where
 first:SlI lo hi w a D.first
 goal:SlI lo hi w b D.goal
 made:SlM lo hi w c D.made
 now:SlI lo hi w d D.now
theorem Θ.below {a b:Value} {D:Dsk}(h:Θ lo hi w a b c d D)(hb:Below B w w')(hB:hi<=B):Θ lo hi w' a b c d D:=
 ⟨h.first.below hb hB,h.goal.below hb hB,h.made.below hb hB,h.now.below hb hB⟩
theorem Θ.outside {a b:Value} {D:Dsk}(h:Θ lo hi w a b c d D)(hb:β lo' hi' w w')(hd:hi<=lo'\/hi'<=lo):Θ lo hi w' a b c d D:=
 ⟨h.first.outside hb hd,h.goal.outside hb hd,h.made.outside hb hd,h.now.outside hb hd⟩
theorem Θ.wide {a b:Value} {D:Dsk}(h:Θ lo hi w a b c d D)(h1:lo'<=lo)(h2:hi<=hi'):Θ lo' hi' w a b c d D:=
 ⟨h.first.wide h1 h2,h.goal.wide h1 h2,h.made.wide h1 h2,h.now.wide h1 h2⟩
structure Κ(lo hi:Nat)(w:World)(a b c d:Value)(D:Dsk):Prop where
 ranges:∃ l1 h1 l2 h2 l3 h3 l4 h4,γ l1 h1 3 w a D.first/\γ l2 h2 3 w b D.goal/\Ξ l3 h3 67 w c D.made/\γ l4 h4 3 w d D.now /\
  (lo<=l1/\l1<=h1/\h1<=hi)/\(lo<=l2/\l2<=h2/\h2<=hi)/\(lo<=l3/\l3<=h3/\h3<=hi)/\(lo<=l4/\l4<=h4/\h4<=hi) /\
  (h1<=l2\/h2<=l1)/\(h1<=l3\/h3<=l1)/\(h1<=l4\/h4<=l1)/\(h2<=l3\/h3<=l2)/\(h2<=l4\/h4<=l2)/\(h3<=l4\/h4<=l3)
theorem Κ.at {a b:Value} {D:Dsk}(h:Κ lo hi w a b c d D):Θ lo hi w a b c d D:=by
 obtain⟨l1,h1,l2,h2,l3,h3,l4,h4,o1,o2,o3,o4,r1,r2,r3,r4,_⟩:=h;exact⟨o1.sl.wide r1.1 r1.2.2,o2.sl.wide r2.1 r2.2.2,o3.sl.wide r3.1 r3.2.2,o4.sl.wide r4.1 r4.2.2⟩
theorem Κ.below {a b:Value} {D:Dsk}(h:Κ lo hi w a b c d D)(hb:Below B w w')(hB:hi<=B):Κ lo hi w' a b c d D:=by
 obtain⟨l1,h1,l2,h2,l3,h3,l4,h4,o1,o2,o3,o4,r1,r2,r3,r4,rest⟩:=h;exact⟨l1,h1,l2,h2,l3,h3,l4,h4,o1.below hb (by omega),o2.below hb (by omega),o3.below hb (by omega),o4.below hb (by omega),r1,r2,r3,r4,rest⟩
theorem Κ.outside {a b:Value} {D:Dsk}(h:Κ lo hi w a b c d D)(hb:β lo' hi' w w')(hd:hi<=lo'\/hi'<=lo):Κ lo hi w' a b c d D:=by
 obtain⟨l1,h1,l2,h2,l3,h3,l4,h4,o1,o2,o3,o4,r1,r2,r3,r4,rest⟩:=h;exact⟨l1,h1,l2,h2,l3,h3,l4,h4,o1.outside hb (by omega),o2.outside hb (by omega),o3.outside hb (by omega),o4.outside hb (by omega),r1,r2,r3,r4,rest⟩
theorem Κ.wide {a b:Value} {D:Dsk}(h:Κ lo hi w a b c d D)(h1:lo'<=lo)(h2:hi<=hi'):Κ lo' hi' w a b c d D:=by
 obtain⟨l1,h1,l2,h2,l3,h3,l4,h4,o1,o2,o3,o4,r1,r2,r3,r4,rest⟩:=h;exact⟨l1,h1,l2,h2,l3,h3,l4,h4,o1,o2,o3,o4,by omega,by omega,by omega,by omega,rest⟩
theorem zhu(xs:List Int):eqL xs xs=true:=by simp[eqL]
abbrev ο(a b c d:Value):Value:=.agg #[a,b,c,d]
def zde(a:Nat):List Mv:=zdk.map λn=>⟨(n:Nat),false,(a:Nat)⟩
def zc4(e:List Int)(a:Nat):List Mv:=((List.range e.length).drop a).flatMap zde
theorem zqr(e:List Int)(a:Nat)(h:e.length<=a):zc4 e a=[]:=by unfold zc4;rw[az_ (by simpa using h)];rfl
theorem zsd(e:List Int)(a:Nat)(h:a<e.length):zc4 e a=zde a++zc4 e (a+1):=by
 unfold zc4;rw[y_ (by simpa using h)];simp
theorem ztw(a:Nat):(zde a).length=11:=rfl
theorem zqm(a j:Nat)(h:j<11):(zde a).drop j=⟨((zdk[j]'h:Nat):Int),false,(a:Nat)⟩ :: (zde a).drop (j+1):=by
 rw[y_ (by rw[ztw];exact h)];simp[zde];rfl
def zfc:Array Value:=#[(2:Int),(3:Int),(5:Int),(6:Int),(7:Int),(8:Int),(15:Int),(16:Int),(17:Int),(18:Int),(19:Int)]
theorem zoc(j:Nat)(h:j<11):zfc[j]?=some (.int .i64 ((zdk[j]'h:Nat):Int)):=by
 have hj:j=0\/j=1\/j=2\/j=3\/j=4\/j=5\/j=6\/j=7\/j=8\/j=9\/j=10:=by omega
 rcases hj with rfl|rfl|rfl|rfl|rfl|rfl|rfl|rfl|rfl|rfl|rfl<;>rfl
def RetS(P:Mv->Bool->World->Prop)(e:Ending)(w':World):Prop:=∃ m ok,e=.returned (.tuple #[ziw m,.bool ok])/\P m ok w'
theorem zxg(ve:Value)(e:List Int)(w:World)(hE:zax w)(hx:RdI w ve e)(hv:ν e=true):
  Calls prog 213 #[ve] w (RetS λm ok w'=>Below w w w'/\ok=(zb8 e).isSome/\∀ m' x,zb8 e=some (m',x)->m=m'):=by
 have hl40:=(zcb hv).2;have HX:=H_ hx;have HE:=H_ hE;have HV:=H_ hv;obtain⟨ea,ecap,rfl,_⟩:=hx.open;have HF:Q_ (zb8 e=zcd e (zc4 e 0)):=H_ rfl;have⟨w0,hw0⟩:=xa_ w #[(0:Int),.bool false,(0:Int)] 67;have hb0:Below w w w0:=by rw[hw0];exact(B_ _ _).alloc (le_ _) _
 have K0:=H_ (show Blk w (.cells #[(0:Int),.bool false,(0:Int)] 67) w0 by rw[hw0];exact κ w _);have HB0:=H_ hb0;have HW0:=H_ hw0;clear hx hE hv hb0 hw0
 go_enter func213,ntmps213
 go_wp2;simp only[<-HW0.o];go_loopw [12] (λi wr=>∃ a:Nat,a<=e.length/\i=.int .i64 a/\Q_ (Below w w wr/\Blk w (.cells #[(0:Int),.bool false,(0:Int)] 67) wr/\zb8 e=zcd e (zc4 e a))) (λi _=>e.length-(intOf i).toNat)
 case atStart=>exact⟨0,by omega,rfl,H_ ⟨HB0.o,K0.o,HF.o⟩⟩
 case round=>
  obtain⟨a,ha,rfl,HQ⟩:=hrel;have HB:=H_ HQ.o.1;have hsz:=HB.o.size;by_cases hlt:a<e.length
  ·have HFA:=H_ (HQ.o.2.2.trans (by rw[zsd e a hlt]))
   have⟨w1,hw1⟩:=xa_ wr zfc 3;have hb1:Below wr wr w1:=by rw[hw1];exact(B_ _ _).alloc (le_ _) _
   have⟨gE,hgE⟩:=ex_ wr.heap.size;have HKE:=H_ (show Blk gE (.cells zfc 3) w1 by rw[hw1,hgE];exact κ wr _);have HB1:=HB.tr hb1 hsz;have HK1:=H_ (HQ.o.2.1.below hb1 HQ.o.2.1.lt);have HW1:=H_ hw1;clear hb1 hw1 HB0 K0;go_wp2;simp only[show (Obj.cells #[(2:Int),(3:Int),(5:Int),(6:Int),(7:Int),(8:Int),(15:Int),(16:Int),(17:Int),(18:Int),(19:Int)] 3)=.cells zfc 3 from rfl,<-HW1.o];have HG:=H_ hgE;clear hgE;simp only[<-HG.o];go_loopw [17] (λi wr=>∃ j:Nat,j<=11/\i=.int .i64 j/\Q_ (Below w w wr/\Blk w (.cells #[(0:Int),.bool false,(0:Int)] 67) wr/\Blk gE (.cells zfc 3) wr/\zb8 e=zcd e ((zde a).drop j++zc4 e (a+1)))) (λi _=>11-(intOf i).toNat)
   case atStart=>exact⟨0,by omega,rfl,H_ ⟨HB1.o,HK1.o,HKE.o,HFA.o⟩⟩
   case round=>
    obtain⟨j,hj,rfl,HI⟩:=hrel;have HBX:=H_ HI.o.1;have hszx:=HBX.o.size;have HKX:=H_ HI.o.2.1;have HEX:=H_ HI.o.2.2.1;by_cases hjl:j<11
    ·(have HFJ:=H_ (HI.o.2.2.2.trans (by rw[zqm a j hjl];rfl:_=zcd e (⟨((zdk[j]'hjl:Nat):Int),false,(a:Nat)⟩ :: ((zde a).drop (j+1)++zc4 e (a+1))))));(have hcell:wr.cell? (p_ gE j)=some (.int .i64 ((zdk[j]'hjl:Nat):Int)):=(HEX.o.cell j).trans (zoc j hjl);generalize (zdk[j]'hjl)=n at HFJ hcell;have⟨w2,hw2⟩:=xa_ wr #[.int .i64 (n:Nat),.bool false,.int .i64 (a:Nat)] 67;have hb2:Below wr wr w2:=by rw[hw2];exact(B_ _ _).alloc (le_ _) _);(have KM:=H_ (show Blk wr (.cells #[.int .i64 (n:Nat),.bool false,.int .i64 (a:Nat)] 67) w2 by rw[hw2];exact κ wr _);have HB2:=HBX.tr hb2 hszx;have HK2:=HKX.kb hb2;have HE2:=HEX.kb hb2;have hs2:=HB2.o.size;have HW2:=H_ hw2;have⟨k0,k1,k2⟩:=KM.o.c3;clear hb2 hw2 HI;go_wp2_with (rw[<-HW2.o]));refine(zln _ e ⟨n,false,a⟩ w2 (HE.o.below HB2.o) (HX.o.below HB2.o) HV.o).mono ?_;rintro e3 w3 ⟨v3,x3,rfl,hb3,hres⟩;have HB3:=HB2.tr hb3 hs2;have HK3:=HK2.kb hb3;have HE3:=HE2.kb hb3;have KM3:=KM.kb hb3;clear hb3 hcell HKX HEX HK2 HE2 KM k0 k1 k2;cases hmv:Ψ e ⟨n,false,a⟩ with
     | none=>
      rw[hmv]at hres;obtain⟨rfl,g,rfl,_⟩:=hres;have HN:=H_ (HFJ.o.trans (by rw[zcd,hmv]:_=zcd e ((zde a).drop (j+1)++zc4 e (a+1))));clear hmv;go_wp2;go_roundw
      (case rel=>exact⟨j+1,by omega,by go_num,H_ ⟨HB3.o,HK3.o,HE3.o,HN.o⟩⟩);case measure=>simp[intOf];omega
     | some y=>
      rw[hmv]at hres;obtain⟨rfl,ho3⟩:=hres;have HN:=H_ (HFJ.o.trans (by rw[zcd,hmv]:_=some ((⟨n,false,a⟩:Mv),y)));obtain⟨ya,yc,rfl,_⟩:=θ ho3;have⟨m0,m1,m2⟩:=KM3.o.c3;have⟨r0,r1,r2⟩:=HK3.o.c3;have⟨f0,f1,f2⟩:=HK3.o.f3;have⟨wz,hwz⟩:=x3_ w3 w (.int .i64 (n:Nat)) (.bool false) (.int .i64 (a:Nat));have KZ:=HK3.o.set3 (.int .i64 (n:Nat)) (.bool false) (.int .i64 (a:Nat));have hOZ:=β.set3 w w3 (.int .i64 (n:Nat)) (.bool false) (.int .i64 (a:Nat));rw[<-hwz]at KZ hOZ;have HZ:=H_ (ε HB3.o hOZ (le_ _) HB3.o.size);obtain⟨q0,q1,q2⟩:=KZ.c3;clear hmv ho3 KZ hOZ;go_wp2;simp only[<-hwz];clear hwz;refine d_ (v:=.tuple #[.agg #[.int .i64 (n:Nat),.bool false,.int .i64 (a:Nat)],.bool true]) (by simp[results,results213,go_sem,q0,q1,q2]) rfl ⟨⟨n,false,a⟩,true,rfl,HZ.o,?_,?_⟩
      ·rw[HN.o];rfl
      ·intro m' x h
       rw[HN.o]at h;injection h with h;injection h with h _
    ·(obtain rfl:j=11:=by omega);(have HN:=H_ (HI.o.2.2.2);rw[show (zde a).drop 11=[] from rfl,ad_]at HN;clear HI;go_wp2;go_roundw);(case rel=>exact⟨a+1,by omega,by go_num,H_ ⟨HBX.o,HKX.o,HN.o⟩⟩);case measure=>simp[intOf];omega
  ·obtain rfl:a=e.length:=by omega
   have HN:=H_ HQ.o.2.2;rw[zqr e _ (le_ _)]at HN;have HK:=H_ HQ.o.2.1;have⟨r0,r1,r2⟩:=HK.o.c3;have⟨f0,f1,f2⟩:=HK.o.f3;have⟨wz,hwz⟩:=x3_ wr w (0:Int) (.bool false) (0:Int);have KZ:=HK.o.set3 (0:Int) (.bool false) (0:Int);have hOZ:=β.set3 w wr (0:Int) (.bool false) (0:Int);rw[<-hwz]at KZ hOZ;have HZ:=H_ (ε HB.o hOZ (le_ _) HB.o.size);obtain⟨q0,q1,q2⟩:=KZ.c3;clear KZ hOZ HQ HK;go_wp2;simp only[<-hwz];clear hwz;refine d_ (v:=.tuple #[.agg #[(0:Int),.bool false,(0:Int)],.bool false]) (by simp[results,results213,go_sem,q0,q1,q2]) rfl ⟨⟨0,false,0⟩,false,rfl,HZ.o,?_,?_⟩
   ·rw[HN.o];rfl
   ·intro m' x h
    rw[HN.o]at h;cases h
def zj3:Value->Nat
 | .slice _ n _=>n
 | _=>0
theorem zg3(a b:List Mv):mvs (a++b)=mvs a++mvs b:=by simp[mvs]
def zcq(B:Nat)(w wr:World)(vm vo:Value)(ms:List Mv)(x:List Int):Prop:=
 Below B w wr/\Ξ B wr 67 wr vm ms/\∃ lo hi,SlI lo hi wr vo x/\hi<=wr.heap.size/\∀ g,vm.ownBlock=some g->g<lo\/hi<=g
theorem zcq.below(h:zcq B w wr vm vo ms x)(hB:B<=wr.heap.size)(hb:Below wr wr w'):zcq B w w' vm vo ms x:=by
 obtain⟨h1,h2,lo,hi,h3,h4,h5⟩:=h;exact⟨h1.trans (hb.mono hB),zf9 (h2.below hb (le_ _)) hb.size,lo,hi,h3.below hb h4,J_ h4 hb.size,h5⟩
theorem zcq.rd(h:zcq B w wr vm vo ms x):RdI wr vo x:=by
 obtain⟨_,_,lo,hi,h3,h4,_⟩:=h;exact zd0 h3 h4
theorem zcq.step {v4:Value}(h:zcq B w w2 vm vo ms x)(hB:B<=w2.heap.size)(hb:Below w2 w2 w3)(ho:γ w2 w3 3 w3 v3 y)
  (h4:Own 3 B w4 67 w4 v4 (ms.length+1) (mvs ms++zbq m)) (hg:(w3.alloc (.cells (zbq m).toArray 67)).grownBy w4 vm.ownBlock) (hl:v4.ownBlock=vm.ownBlock\/v4.ownBlock=some (w3.heap.size+1)) :
  zcq B w w4 v4 v3 (ms++[m]) y:=by
 obtain⟨h1,h2,_⟩:=h;have hs:=hg.size;have hs3:(w3.alloc (.cells (zbq m).toArray 67)).heap.size=w3.heap.size+1:=by simp
 have hs2:=hb.size;have hlt:=Own.lt h2;refine⟨?_,?_,w2.heap.size,w3.heap.size,?_,by omega,λg hg'=>?_⟩
 ·have h5:Below B w (w3.alloc (.cells (zbq m).toArray 67)):=(h1.trans (hb.mono hB)).alloc (by omega) _
  refine⟨hg.os.trans h5.os,hg.tape.trans h5.tape,hg.output.trans h5.output,J_ h5.size hs,λi hi=>?_⟩;rw[hg.block i (by omega) (λe=>by have:=hlt i e.symm;omega)];exact h5.block i hi
 ·unfold Ξ
  rw[n_,zg3]
  simpa [mvs] using h4
 ·have h6:SlI w2 w3 (w3.alloc (.cells (zbq m).toArray 67)) v3 y:=zo3 ho.sl _
  obtain⟨a,cap,e1,e2,e3,e4,e5,e6⟩:=h6;refine⟨a,cap,e1,e2,e3,e4,e5,λi hi=>?_⟩;obtain⟨b,off,f1,f2,f3,f4,f5⟩:=e6 i hi;refine⟨b,off,f1,f2,f3,T_ f4 hs,?_⟩;rw[ag_ (w:=w3.alloc (.cells (zbq m).toArray 67)) (a:=p_ b (off+i)) (hg.block b f4 (λe=>by have:=hlt b e.symm;omega))];exact f5
 ·rcases hl with e|e
  ·rw[e]at hg'
   have:=hlt g hg';exact .inl (by omega)
  ·rw[e]at hg'
   injection hg' with hg';exact .inr (by omega)
theorem z1v {o:Obj}(h:zcq B w w2 vm vo ms x)(ho:γ w2 w3 3 w3 v3 y)(hg:(w3.alloc o).grownBy w4 vm.ownBlock)(hB:B<=w2.heap.size):
  γ B w4 3 w4 v3 y:=by
 have hlt:=Own.lt h.2.1;have hs:=hg.size;have hs3:(w3.alloc o).heap.size=w3.heap.size+1:=by simp
 have h1:=(Own.alloc ho o).1
 have h2:=World.ownsRow.kept h1 hg (by
  cases hb:v3.ownBlock with
  | none=>exact .inl rfl
  | some g=>
   refine .inr λe=>?_
   have h3:=(Own.lt ho g hb).1;have h4:=hlt g e.symm;omega)
 exact za3 ⟨h2,λg hg'=>by have:=(Own.lt ho g hg').2;omega⟩ hB (le_ _)
theorem zi8(m:Mv):∀ u∈zbq m,u.oneCell'=true:=by
 intro u hu;simp[zbq]at hu;rcases hu with rfl|rfl|rfl<;>rfl
def zo6(P:Value->Value->World->Prop)(e:Ending)(w':World):Prop:=∃ a b,e=.returned (.tuple #[a,b])/\P a b w'
theorem zxl(ve:Value)(e:List Int)(w:World)(hE:zax w)(hx:RdI w ve e)(hv:ν e=true):
  Calls prog 187 #[ve] w (zo6 λa b w'=>zcq w w w' a b (zan e).1 (zan e).2/\γ w w' 3 w' b (zan e).2):=by
 have hl40:=(zcb hv).2;have hsb:=zkd _ e (le_ _);have HX:=H_ hx;have HE:=H_ hE;have HV:=H_ hv;obtain⟨ea,ecap,rfl,_⟩:=hx.open;clear hx hE hv
 go_enter func187,ntmps187
 go_wp2_with fail
 refine(zdo _ _ _ e _ HX.o (by omega)).mono ?_;rintro e1 w1 ⟨v1,rfl,hb1,ho1⟩;have HB1:=H_ hb1;have HO1:=H_ ho1;obtain⟨a1,c1,rfl,_⟩:=θ ho1;clear hb1 ho1;go_wp2;go_loopw [4,5] (λvm vo wr=>∃ (ms:List Mv) (x:List Int),ms.length+x.length<=e.length/\Q_ (zcq w w wr vm vo ms x/\γ w wr 3 wr vo x/\ν x=true/\zan e=(ms++(zan x).1,(zan x).2))) (λ_ vo _=>zj3 vo)
 case atStart=>exact⟨[],e,by simp,H_ ⟨⟨HB1.o,Ω _ _ _ _ _,w.heap.size,w1.heap.size,HO1.o.sl,le_ _,λg hg=>by cases hg⟩,HO1.o,HV.o,by simp⟩⟩
 case round=>
  obtain⟨ms,x,hlen,HQ⟩:=hrel;obtain⟨oa,oc,rfl,_⟩:=θ HQ.o.2.1;obtain⟨na,nc,rfl,_⟩:=θ HQ.o.1.2.1;have hB:=HQ.o.1.1.size;have HR:=H_ HQ.o.1.rd;go_wp2_with fail
  refine(zxg _ x wr (HE.o.below HQ.o.1.1) HR.o HQ.o.2.2.1).mono ?_;rintro e2 w2 ⟨m,ok,rfl,hb2,rfl,hm⟩;have HS2:=H_ (HQ.o.1.below hB hb2);have HO2:=H_ (HQ.o.2.1.below hb2 (le_ _));have HKX:=H_ HQ.o.2.2.1;have HSM:=H_ HQ.o.2.2.2;have hs2:=hb2.size;have hB2:w<=w2.heap.size:=by omega
  have⟨w3,hw3⟩:=xa_ w2 #[.int .i64 m.which,.bool m.back,.int .i64 m.at_] 67;have hb3:Below w2 w2 w3:=by rw[hw3];exact(B_ _ _).alloc (le_ _) _
  have KM:=H_ (show Blk w2 (.cells #[.int .i64 m.which,.bool m.back,.int .i64 m.at_] 67) w3 by rw[hw3];exact κ w2 _);have HS3:=H_ (HS2.o.below hB2 hb3);have HO3:=H_ (HO2.o.below hb3 hs2);have hs3:=hb3.size;have HW3:=H_ hw3;clear hb2 hb3 hw3 HQ HR;cases hf:zb8 x with
  | none=>
   have hsn:=zkt hf;have HFIN:=H_ (show zan e=(ms,x) by rw[HSM.o,hsn];simp);clear hf hm hsn;simp only[a8_];go_wp2;simp only[<-HW3.o]
   go_ret2
   refine⟨_,_,rfl,?_,?_⟩
   ·rw[HFIN.o];exact HS3.o
   ·rw[HFIN.o];exact zf9 HO3.o (by omega)
  | some p=>
   obtain⟨m',y⟩:=p;obtain rfl:=hm m' y hf;obtain⟨hmv,hbk,hyl,hky⟩:=zh6 hf;have hsm:=zjo hf;have HFIN:=H_ (show zan e=((ms++[m])++(zan y).1,(zan y).2) by rw[HSM.o,hsm];simp);have HKY:=H_ hky;have HMV:=H_ hmv;have⟨k0,k1,k2⟩:=KM.o.c3;clear hf hm hsm hky hmv hbk;simp only[a0_];go_wp2_with (rw[<-HW3.o])
   refine(zln _ x m w3 (HE.o.below HS3.o.1) HS3.o.rd HKX.o).mono ?_;rintro e4 w4 ⟨v4,x4,rfl,hb4,hres⟩;rw[HMV.o]at hres;obtain⟨rfl,ho4⟩:=hres;have HS4:=H_ (HS3.o.below (by omega) hb4);have KM4:=KM.kb hb4;have HB4:=H_ hb4;have HO4:=H_ ho4;have hs4:=hb4.size;obtain⟨ya,yc,rfl,_⟩:=θ ho4;clear hb4 ho4 k0 k1 k2 KM;have⟨k0,k1,k2⟩:=KM4.o.c3;have HOM:=H_ (show Own 3 w w4 67 w4 (.slice na ms nc) ms.length (mvs ms) from HS4.o.2.1);go_wp2_with (at_builtin;go_loud (refine zbn w4 rfl _ _ 29 rfl 67 (.agg #[(0:Int),.bool false,(0:Int)]) 3 24 underlying29 zd8 rfl (by decide) (by decide) rfl HOM.o 1 (zbq m) rfl rfl (zi8 m) rfl (by omega) (by omega) ?_))
   intro v5 w5 ho5 hg5 hl5 _;have HS5:=H_ (zcq.step (m:=m) HS3.o (by omega) HB4.o HO4.o ho5 hg5 hl5);have HOY:=H_ (z1v HS3.o HO4.o hg5 (by omega));obtain⟨za,zc,rfl,_⟩:=θ ho5;clear ho5 hg5 hl5 k0 k1 k2;go_wp2;go_roundw
   case rel=>exact⟨ms++[m],y,by simp;omega,H_ ⟨HS5.o,HOY.o,HKY.o,HFIN.o⟩⟩
   case measure=>simp[zj3];omega
theorem zzc(w:World):Calls prog 155 #[] w λe w'=>e=.returned (.slice (q_ w 0) 11 11)/\w'=w.alloc (.cells zfc 3):=by
 go_enter func155,ntmps155
 go_wp2;go_ret;exact⟨rfl,rfl⟩
theorem Own.form {e:Nat} {xs:List Value}(h:Own sz lo hi e w v n xs):∃ a k c,v=.slice a k c:=by
 obtain⟨a,c,h,_⟩:=θ h;exact⟨a,n,c,h⟩
def zgy:Value->Nat
 | .bool true=>0
 | _=>1
def zah(e:List Int):List Mv:=if ν e then (zan e).1 else []
theorem zt1(ve:Value)(e:List Int)(w:World)(hx:RdI w ve e)(hm:e.length<=1048576):
  Calls prog 102 #[ve] w (ι λv w'=>Below w w w'/\Ξ w w' 67 w' v (zah e)):=by
 have HX:=H_ hx;obtain⟨ea,ecap,rfl,_⟩:=hx.open;have⟨w0,hw0⟩:=xa_ w #[] 67;have hb0:Below w w w0:=by rw[hw0];exact(B_ _ _).alloc (le_ _) _
 have hs0:w0=w.heap.size+1:=by rw[hw0];simp
 have HO0:Q_ (Ξ w w0 67 w0 (.slice (q_ w 0) 0 0) []):=by rw[hw0];exact H_ (zf9 (ς 3 67 w [] 0 (by omega) rfl) (by simp))
 have HB0:=H_ hb0;have HX0:=H_ (zjb HX.o hb0 (le_ _));have HW0:=H_ hw0;clear hx hb0 hw0
 go_enter func102,ntmps102
 go_wp2;simp only[<-HW0.o];go_loopw [3,4] (λvm vo wr=>∃ (ms:List Mv) (x:List Int),x.length<=1048576/\ms.length<=40/\Q_ (zcq w w wr vm vo ms x/\((ν e=true/\ν x=true/\ms.length+x.length<=e.length/\zan e=(ms++(zan x).1,(zan x).2))\/(ν e=false/\ms=[]/\x=e)))) (λ_ vo _=>zj3 vo)
 case atStart=>
  refine⟨[],e,hm,by simp,H_ ⟨⟨HB0.o,HO0.o,0,w.heap.size,HX0.o,by omega,λg hg=>?_⟩,?_⟩⟩
  ·simp[Value.ownBlock]at hg
   omega
  ·cases hk:ν e
   ·exact .inr ⟨rfl,rfl,rfl⟩
   ·exact .inl ⟨rfl,rfl,by simp,by simp⟩
 case round=>
  obtain⟨ms,x,hxl,hml,HQ⟩:=hrel;have HR:=H_ HQ.o.1.rd;obtain⟨oa,oc,rfl,_⟩:=HR.o.open;obtain⟨na,nc,rfl,_⟩:=θ HQ.o.1.2.1;have hB:=HQ.o.1.1.size;go_wp2_with fail
  refine(zag _ _ _ x _ HR.o hxl).mono ?_;rintro e1 wx ⟨rfl,rfl⟩;rcases HQ.o.2 with⟨hke,hkx,hlen,hsm⟩|⟨hke,rfl,rfl⟩
  ·rw[hkx]
   have hl40:=(zcb hkx).2;have HKE:=H_ hke;have HKX:=H_ hkx;have HSM:=H_ hsm;have HS:=H_ HQ.o.1;have HF:Q_ (zb8 x=zcd x (zc4 x 0)):=H_ rfl;clear hke hkx hsm HQ HR HX0 HO0 HB0;go_wp2;go_loopw [3,4,5,6] (λvm vo fd i wr=>∃ a:Nat,i=.int .i64 a/\((fd=.bool false/\vm=.slice na ms nc/\vo=.slice oa x oc/\a<=x.length/\Q_ (zcq w w wr vm vo ms x/\zb8 x=zcd x (zc4 x a)))\/(fd=.bool true/\a<=41/\∃ m y,Q_ (zcq w w wr vm vo (ms++[m]) y/\zb8 x=some (m,y))))) (λ_ _ fd i _=>zgy fd*(42-(intOf i).toNat))
   case atStart=>exact⟨0,rfl,.inl ⟨rfl,rfl,rfl,by omega,H_ ⟨HS.o,HF.o⟩⟩⟩
   case round=>
    obtain⟨a,rfl,⟨rfl,rfl,rfl,ha,HI⟩|⟨rfl,ha,m,y,HI⟩⟩:=hrel
    ·by_cases hlt:a<x.length
     ·(have HFA:=H_ (HI.o.2.trans (by rw[zsd x a hlt])));(have hsz:=HI.o.1.1.size;have⟨w1,hw1⟩:=xa_ wr zfc 3;have hb1:Below wr wr w1:=by rw[hw1];exact(B_ _ _).alloc (le_ _) _);(have⟨gE,hgE⟩:=ex_ wr.heap.size;have HKE:=H_ (show Blk gE (.cells zfc 3) w1 by rw[hw1,hgE];exact κ wr _);have HS1:=H_ (HI.o.1.below hsz hb1);have HW1:=H_ hw1;have HG:=H_ hgE;clear hb1 hw1 hgE HI;go_wp2_with (go_at_call 155;refine(zzc _).mono ?_;rintro e2 wx2 ⟨rfl,rfl⟩;simp only[<-HW1.o,<-HG.o]));go_loopw [3,4,5,8] (λvm vo fd i wr=>∃ j:Nat,i=.int .i64 j/\((fd=.bool false/\vm=.slice na ms nc/\vo=.slice oa x oc/\j<=11/\Q_ (zcq w w wr vm vo ms x/\Blk gE (.cells zfc 3) wr/\zb8 x=zcd x ((zde a).drop j++zc4 x (a+1))))\/(fd=.bool true/\j<=12/\∃ m y,Q_ (zcq w w wr vm vo (ms++[m]) y/\zb8 x=some (m,y))))) (λ_ _ fd i _=>zgy fd*(13-(intOf i).toNat))
      case atStart=>exact⟨0,rfl,.inl ⟨rfl,rfl,rfl,by omega,H_ ⟨HS1.o,HKE.o,HFA.o⟩⟩⟩
      case round=>
       obtain⟨j,rfl,⟨rfl,rfl,rfl,hj,HJ⟩|⟨rfl,hj,m,y,HJ⟩⟩:=hrel
       ·(have HSJ:=H_ HJ.o.1);have hszj:=HSJ.o.1.size;have HEJ:=H_ HJ.o.2.1;by_cases hjl:j<11
        ·(have HFJ:=H_ (HJ.o.2.2.trans (by rw[zqm a j hjl];rfl:_=zcd x (⟨((zdk[j]'hjl:Nat):Int),false,(a:Nat)⟩ :: ((zde a).drop (j+1)++zc4 x (a+1))))));(have hcell:wr.cell? (p_ gE j)=some (.int .i64 ((zdk[j]'hjl:Nat):Int)):=(HEJ.o.cell j).trans (zoc j hjl);generalize (zdk[j]'hjl)=n at HFJ hcell;have⟨w2,hw2⟩:=xa_ wr #[.int .i64 (n:Nat),.bool false,.int .i64 (a:Nat)] 67;have hb2:Below wr wr w2:=by rw[hw2];exact(B_ _ _).alloc (le_ _) _);(have KM:=H_ (show Blk wr (.cells #[.int .i64 (n:Nat),.bool false,.int .i64 (a:Nat)] 67) w2 by rw[hw2];exact κ wr _);have HS2:=H_ (HSJ.o.below hszj hb2);have HE2:=HEJ.kb hb2;have hs2:=HS2.o.1.size;have HW2:=H_ hw2;have⟨k0,k1,k2⟩:=KM.o.c3;clear hb2 hw2 HJ;go_wp2_with (rw[<-HW2.o]));refine(zj0 _ x ⟨n,false,a⟩ w2 HS2.o.rd hxl).mono ?_;rintro e3 w3 ⟨v3,b3,rfl,hb3,rfl,ho3⟩;have HB3:=H_ hb3;have hs3:=hb3.size;have HS3:=H_ (HS2.o.below hs2 hb3);have HE3:=HE2.kb hb3;have KM3:=KM.kb hb3;obtain⟨ya,yc,rfl,_⟩:=θ ho3;clear hb3 hcell HSJ HEJ HE2 KM k0 k1 k2;cases hmv:Ψ x ⟨n,false,a⟩ with
         | none=>
          (have HN:=H_ (HFJ.o.trans (by rw[zcd,hmv]:_=zcd x ((zde a).drop (j+1)++zc4 x (a+1))));clear hmv ho3;simp only[a8_];go_wp2;go_roundw);(case rel=>exact⟨j+1,by go_num,.inl ⟨rfl,rfl,rfl,by omega,H_ ⟨HS3.o,HE3.o,HN.o⟩⟩⟩);case measure=>simp[intOf,zgy];omega
         | some y=>
          rw[hmv]at ho3;have HN:=H_ (HFJ.o.trans (by rw[zcd,hmv]:_=some ((⟨n,false,a⟩:Mv),y)));have HO3:=H_ (show γ w2 w3 3 w3 (.slice ya y yc) y from ho3);have⟨m0,m1,m2⟩:=KM3.o.c3;have HOM:=H_ (show Own 3 w w3 67 w3 (.slice na ms nc) ms.length (mvs ms) from HS3.o.2.1);clear hmv ho3;simp only[a0_,ac_];go_wp2_with (at_builtin;go_loud (refine zbn w3 rfl _ _ 29 rfl 67 (.agg #[(0:Int),.bool false,(0:Int)]) 3 24 underlying29 zd8 rfl (by decide) (by decide) rfl HOM.o 1 (zbq ⟨n,false,a⟩) rfl rfl (zi8 _) rfl (by omega) (by omega) ?_))
          intro v5 w5 ho5 hg5 hl5 _;have HS5:=H_ (zcq.step (m:=⟨n,false,a⟩) HS2.o (by omega) HB3.o HO3.o ho5 hg5 hl5);obtain⟨za,zc,rfl,_⟩:=θ ho5;clear ho5 hg5 hl5 m0 m1 m2;go_wp2;go_roundw
          (case rel=>exact⟨j+1,by go_num,.inr ⟨rfl,by omega,⟨n,false,a⟩,y,H_ ⟨HS5.o,HN.o⟩⟩⟩);case measure=>simp[intOf,zgy];omega
        ·(obtain rfl:j=11:=by omega);(have HN:=H_ HJ.o.2.2;rw[show (zde a).drop 11=[] from rfl,ad_]at HN;clear HJ HEJ;go_wp2;go_roundw);(case rel=>exact⟨a+1,by go_num,.inl ⟨rfl,rfl,rfl,by omega,H_ ⟨HSJ.o,HN.o⟩⟩⟩);case measure=>simp[intOf,zgy];omega
       ·(obtain⟨pa,pn,pc,rfl⟩:=Own.form HJ.o.1.2.1);obtain⟨qa,qc,rfl,_⟩:=HJ.o.1.rd.open;by_cases hjl:j<11
        ·go_wp2
         go_roundw
         (case rel=>exact⟨a+1,by go_num,.inr ⟨rfl,by omega,m,y,HJ⟩⟩);case measure=>simp[intOf,zgy];omega
        ·go_wp2
         go_roundw
         (case rel=>exact⟨a+1,by go_num,.inr ⟨rfl,by omega,m,y,HJ⟩⟩);case measure=>simp[intOf,zgy];omega
     ·(obtain rfl:a=x.length:=by omega);have HN:=H_ HI.o.2;rw[zqr x _ (le_ _)]at HN;have hsn:=zkt (show zb8 x=none from HN.o);have HFIN:=H_ (show zah e=ms by rw[zah,HKE.o,x_ rfl,HSM.o,hsn];simp);clear hsn;go_wp2;go_ret;refine ι.mk _ rfl ⟨HI.o.1.1,?_⟩;rw[HFIN.o];exact HI.o.1.2.1
    ·(obtain⟨pa,pn,pc,rfl⟩:=Own.form HI.o.1.2.1);(obtain⟨qa,qc,rfl,_⟩:=HI.o.1.rd.open;obtain⟨hmv,hbk,hyl,hky⟩:=zh6 HI.o.2;have hsm:=zjo HI.o.2;have HFIN:=H_ (show zan e=((ms++[m])++(zan y).1,(zan y).2) by rw[HSM.o,hsm];simp);have HKY:=H_ hky;have hml2:(ms++[m]).length=ms.length+1:=by simp);(have he40:=(zcb HKE.o).2;clear hmv hky hsm hbk;by_cases hlt:a<y.length)
     all_goals (
      go_wp2;go_roundw
      (case rel=>exact⟨ms++[m],y,by omega,by omega,H_ ⟨HI.o.1,.inl ⟨HKE.o,HKY.o,by omega,HFIN.o⟩⟩⟩);case measure=>simp[zj3];omega)
  ·rw[hke]
   have HOUT:=H_ (show zah x=[] by simp[zah,hke]);clear hke;go_wp2;go_ret;refine ι.mk _ rfl ⟨HQ.o.1.1.alloc hB _,?_⟩;rw[HOUT.o];exact za3 (ς 3 67 _ [] 0 (by omega) rfl) hB (by simp)
theorem zlf(e:List Int):(zah e).length<=40:=by
 unfold zah
 split
 ·rename_i h
  have:=zkd _ e (le_ _);have:=(zcb h).2;omega
 ·simp
theorem zv0(ve:Value)(e:List Int)(w:World)(hE:zax w)(hx:RdI w ve e)(hm:e.length<=1048576):
  Calls prog 150 #[ve] w (ι λv w'=>Below w w w'/\Ξ w w' 67 w' v (zah e)):=by
 have HX:=H_ hx;have HE:=H_ hE;obtain⟨ea,ecap,rfl,_⟩:=hx.open;clear hx hE;cases hkv:ν e
 ·have HR:=H_ (show zah e=[] by simp[zah,hkv])
  go_enter func150,ntmps150
  go_wp2_with fail
  refine(zc3 _ _ _ e _ HX.o hm).mono ?_;rintro e1 w1 ⟨rfl,rfl⟩;rw[hkv];go_wp2;go_ret;exact ι.mk _ rfl ⟨B_ _ _,by rw[HR.o];exact Ω _ _ _ _ _⟩
 ·have HR:=H_ (show zah e=(zan e).1 by simp[zah,hkv])
  have HKV:=H_ hkv
  go_enter func150,ntmps150
  go_wp2_with fail
  refine(zc3 _ _ _ e _ HX.o hm).mono ?_;rintro e1 w1 ⟨rfl,rfl⟩;rw[hkv];clear hkv;go_wp2_with fail
  refine(zxl _ e _ HE.o HX.o HKV.o).mono ?_;rintro e2 w2 ⟨va,vb,rfl,hs,ho⟩;have HS:=H_ hs;obtain⟨na,nc,rfl,_⟩:=θ hs.2.1;obtain⟨oa,oc,rfl,_⟩:=θ ho;clear hs ho;go_wp2;go_ret;exact ι.mk _ rfl ⟨HS.o.1,by rw[HR.o];exact HS.o.2.1⟩
end Go.Proofs.YtfnnhimopokpnaaGreatDoor
