/- Lemmas for this seat; no condition. -/
import Derived.Test.YtfnnhimopokpnaaGreatDoorHCAW
namespace Go.Proofs.YtfnnhimopokpnaaGreatDoor
open Go.RowKit Proofs.Tryz
set_option maxRecDepth 100000
set_option maxHeartbeats 0
set_option linter.all false
theorem KR.stepN{g:Nat}{w:World}{txt s:List UInt8}(h:KR g w txt s)(W:Nat)(hW:W<=s.length)(m:Nat):KR g ((w.drewN m).setCell (p_ g 1) (.int .i64 (((txt.length-s.length:Nat):Int)+(W:Int)))) txt (s.drop W):=by
 obtain⟨h1,h2,h3,h4⟩:=h;have e1:txt.length-(s.drop W).length=txt.length-s.length+W:=by rw[af_];omega
 refine⟨?_,?_,by rw[af_];omega,h4⟩
 ·have h':(w.drewN m).heap[g]?=_:=h1
  show ((w.drewN m).setCell (p_ g 1) _).heap[g]?=_
  simp only[World.setCell,V_,h',d6_];rw[e1];simp
 ·rw[e1,<-List.drop_drop,<-h2]
theorem zjj(l:List UInt8)(k:Nat):ByteArray.extract ⟨l.toArray⟩ 0 k=⟨(l.take k).toArray⟩:=by
 apply cd_;simp[bo_]
theorem zi3{s:List UInt8}{W:Nat}(h:zb0 s=W):zdv s=(zfa (s.take W)).map λn=>([n],s.drop W):=by rw[zdv,h]
theorem zi5{d:UInt8}(h1:97<=d.toNat)(h2:d.toNat<=99):zfa [d]=some (16+((d.toNat:Int)-97)):=by
 simp only[zfa];rw[x_ ⟨h1,h2⟩]
theorem zf1{x:List UInt8}(h:∀ d,x=[d]->¬(97<=d.toNat/\d.toNat<=99)):zfa x=(zbo x).map λt=>((t:Nat):Int):=by
 unfold zfa
 split
 ·rename_i d
  rw[m_ (h d rfl)]
 ·rfl
theorem zq6(c:UInt8)(t:List UInt8):Lib.hasPrefix (ByteArray.mk (c :: t).toArray).data.toList (ByteArray.mk #[c]).data.toList=true:=by
 show List.isPrefixOf [c] (c :: t)=true
 simp[List.isPrefixOf]
theorem ztz{c:UInt8}{t:List UInt8}(hc:c.toNat=91):∃ W:Nat,W<=(c :: t).length/\zb0 (c :: t)=W/\Lib.indexByte (c :: t) 93=(W:Int)-1:=by
 have hl:zb0 (c :: t)=match (c :: t).findIdx? (·==93) with | some i=>i+1 | none=>0:=by
  simp only[zb0];rw[m_ (by omega),x_ hc];cases (c :: t).findIdx? (·==93)<;>rfl
 generalize hs:c :: t=s at *;cases hf:s.findIdx? (·==93) with
 | none=>
  rw[hf]at hl;refine⟨0,by omega,hl,?_⟩
  have hno:∀ j:Nat,s[j]?≠some (93:UInt8):=λj he=>by
   rw[c0_]at hf;have:=hf 93 (cg_ he);simp at this
  have hge:=Lib.indexByte_ge s 93;rcases Int.lt_or_le (Lib.indexByte s 93) 0 with h|h
  ·omega
  ·obtain⟨o,ho⟩:∃ o:Nat,Lib.indexByte s 93=o:=⟨(Lib.indexByte s 93).toNat,by omega⟩
   exact absurd (Lib.indexByte_some ho).1 (hno o)
 | some i=>
  rw[hf]at hl;rw[bp_]at hf;obtain⟨hi,h1,h2⟩:=hf;have e93:s[i]?=some (93:UInt8):=by rw[l_ hi];congr 1;simpa using h1
  refine⟨i+1,by omega,hl,?_⟩;have hge:=Lib.indexByte_ge s 93;rcases Int.lt_or_le (Lib.indexByte s 93) 0 with h|h
  ·exact absurd e93 (Lib.indexByte_none (by omega) i)
  ·obtain⟨o,ho⟩:∃ o:Nat,Lib.indexByte s 93=o:=⟨(Lib.indexByte s 93).toNat,by omega⟩
   obtain⟨g1,g2⟩:=Lib.indexByte_some ho;rcases Nat.lt_trichotomy o i with hk|hk|hk
   ·(have hol:o<s.length:=by omega);have:=h2 o hk;rw[l_ hol]at g1;injection g1 with g1;simp[g1]at this
   ·omega
   ·exact absurd e93 (g2 i hk)
theorem z1f(sum:PR)(n:Nat)(hsum:Tot 68 sum n):Tot 193 (ω sum) (n+1):=by
 intro B g w txt s hk hn hB hM;have HM:=H_ hM;have HK:=H_ hk;have hg:=hk.lt;cases s with
 | nil=>
  clear hsum hM hk
  go_enter func193,ntmps193
  go_wp2_with fail
  refine(zb5 g _ txt [] 40 HK.o).mono ?_;rintro e1 w1 ⟨b,rfl,rfl,hk,ho⟩;rw[show Ψ 40 []=false from rfl]at hk ⊢;replace HK:=H_ (show KR g w1 txt [] from hk);have HO:=H_ ho;clear hk ho;obtain⟨k1,k2,k3,k4⟩:=HK.o;have hex:=zle txt txt.length;rw[List.drop_length]at hex;have c0:w1.cell? (p_ g 0)=some (.string ⟨txt.toArray⟩):=by rw[al_ k1];rfl
  have c1:w1.cell? (p_ g 1)=some (.int .i64 (txt.length:Int)):=by rw[al_ k1];rfl
  clear k1 k2 k3;go_wp2_with fail
  go_quiet (fail)
  go_wp2_with fail
  refine(Tryz.strings_HasPrefix _ _ _).mono ?_;rintro e1 w2 ⟨rfl,rfl⟩;have P1:Lib.hasPrefix ([]:List UInt8) [33]=false:=rfl;have P2:Lib.hasPrefix ([]:List UInt8) [91]=false:=rfl;rw[show Lib.hasPrefix ByteArray.empty.data.toList (ByteArray.mk #[33]).data.toList=false from rfl];go_wp2_with fail
  refine(Tryz.strings_HasPrefix _ _ _).mono ?_;rintro e1 w2 ⟨rfl,rfl⟩;rw[show Lib.hasPrefix ByteArray.empty.data.toList (ByteArray.mk #[91]).data.toList=false from rfl];go_wp2;exact⟨rfl,.inr ⟨rfl,rfl,HO.o.trans (β.drawn _ _ _ _)⟩⟩
 | cons c t=>
  have hnt:t.length<n:=by simpa using hn
  have HS:=H_ hsum;clear hsum hM hk hn;by_cases hc:c.toNat=40
  ·have q1:Ψ 40 (c :: t)=true:=by simp[Ψ];omega
   have HSF:=H_ (show ω sum (c :: t)=match sum t with
    | some (e,d :: r2)=>if d.toNat=41 then some (e,r2) else none
    | _=>none by
    simp only[ω];rw[x_ hc];cases sum t with
    | none=>rfl
    | some x=>
     obtain⟨e,r⟩:=x;cases r<;>rfl)
   clear hc
   go_enter func193,ntmps193
   go_wp2_with fail
   refine(zb5 g _ txt (c :: t) 40 HK.o).mono ?_;rintro e1 w1 ⟨b,rfl,rfl,hk,ho⟩;rw[q1]at hk ⊢;replace HK:=H_ (show KR g w1 txt t from hk);have HO:=H_ ho;replace HM:=H_ (HM.o.outside ho hB);clear hk ho;go_wp2_with fail
   refine(HS.o B g _ txt t HK.o hnt hB HM.o).mono ?_;rintro e1 w2 (⟨e,r,hp2,v2,rfl,hown,hk,ho⟩|⟨hp2,rfl,ho⟩)
   rotate_left
   ·exact⟨rfl,.inr ⟨by rw[HSF.o,hp2],rfl,HO.o.trans ho⟩⟩
   have HP2:=H_ hp2;replace HK:=H_ hk;have HV:=H_ hown;have hs1:=HO.o.size;replace HO:=H_ (HO.o.trans ho);clear hk ho hown hp2;obtain⟨ra,rc,rfl,_⟩:=ζ HV.o;cases q2:Ψ 41 r
   ·have HNO:=H_ (show ω sum (c :: t)=none by
     rw[HSF.o,HP2.o];cases r with
     | nil=>rfl
     | cons d r2=>
      simp only[Ψ,b2_,ne_eq]at q2
      show (if d.toNat=41 then _ else _)=_
      rw[m_ (by omega)])
    go_wp2_with fail
    refine(zb5 g _ txt r 41 HK.o).mono ?_;rintro e1 w3 ⟨b,rfl,rfl,hk,ho⟩;rw[q2];replace HO:=H_ (HO.o.trans ho);clear hk ho;go_wp2;exact⟨rfl,.inr ⟨HNO.o,rfl,HO.o⟩⟩
   ·have HYES:=H_ (show ω sum (c :: t)=some (e,r.tail) by
     rw[HSF.o,HP2.o];cases r with
     | nil=>cases q2
     | cons d r2=>
      simp only[Ψ,bu_]at q2
      show (if d.toNat=41 then _ else _)=_
      rw[x_ (by omega)];rfl)
    go_wp2_with fail
    refine(zb5 g _ txt r 41 HK.o).mono ?_;rintro e1 w3 ⟨b,rfl,rfl,hk,ho⟩;rw[q2]at hk ⊢;replace HV:=H_ ((HV.o.outside ho (.inr (by omega))).wide2' ho.size);replace HK:=H_ (show KR g w3 txt r.tail from hk);replace HO:=H_ (HO.o.trans ho);clear hk ho;go_wp2;go_ret;exact .inl ⟨e,r.tail,HYES.o,ε.mk _ rfl ⟨HV.o.wide2 hs1 (le_ _),HK.o,HO.o⟩⟩
  ·have q1:Ψ 40 (c :: t)=false:=by simp[Ψ];omega
   have HSF:=H_ (show ω sum (c :: t)=zdv (c :: t) by
    simp only[ω];rw[m_ hc])
   clear hc
   go_enter func193,ntmps193
   go_wp2_with fail
   refine(zb5 g _ txt (c :: t) 40 HK.o).mono ?_;rintro e1 w1 ⟨b,rfl,rfl,hk,ho⟩;rw[q1]at hk ⊢;replace HK:=H_ (show KR g w1 txt (c :: t) from hk);have HO:=H_ ho;replace HM:=H_ (HM.o.outside ho hB);have hs1:=ho.size;clear hk ho q1;obtain⟨k1,k2,k3,k4⟩:=HK.o;have⟨m,hm⟩:=ex_ (txt.length-(c :: t).length);have hex:=zle txt m;rw[hm,<-k2,<-hm]at hex;have c0:w1.cell? (p_ g 0)=some (.string ⟨txt.toArray⟩):=by rw[al_ k1];rfl
   have c1:w1.cell? (p_ g 1)=some (.int .i64 ((txt.length-(c :: t).length:Nat):Int)):=by rw[al_ k1];rfl
   have f1:w1.frozen? (p_ g 1)=false:=bs_ k1 1;rw[<-hm]at c1;have HMM:=H_ hm;have⟨hm1,hm2⟩:m<=txt.length/\(m:Int)<=txt.length:=by omega
   have hslen:(c :: t).length<=199:=J_ k3 k4;clear k1 k2 k3 hm;go_wp2_with fail
   go_quiet (fail)
   go_wp2_with fail
   refine(Tryz.strings_HasPrefix _ _ _).mono ?_;rintro e1 w2 ⟨rfl,rfl⟩;by_cases h33:c.toNat=33
   ·obtain rfl:c=33:=by
     have:c.toNat=(33:UInt8).toNat:=h33;exact cw_.1 this
    rw[zq6];clear h33;cases t with
    | nil=>
     (have hW:zb0 [(33:UInt8)]=1:=by decide);(have hWs:1<=([(33:UInt8)]:List UInt8).length:=by decide);(have hmn:min (2:Int) 1=1:=by decide);(have HLF:=H_ (zi3 hW);clear hW;have⟨j1,j2⟩:(1:Int)<=(((33:UInt8) :: []).length:Int)/\(0:Int)<=(1:Int):=by omega);(have hexW:=zjj ((33:UInt8) :: []) 1;have⟨x,hx⟩:=ex_ (((33:UInt8) :: []).take 1);have hstep:∀ q,KR g ((w1.drewN q).setCell (p_ g 1) (.int .i64 ((m:Int)+(1:Int)))) txt (((33:UInt8) :: []).drop 1):=λq=>by rw[HMM.o];exact HK.o.stepN 1 hWs q);(have hout:∀ q,β g (g+1) w ((w1.drewN q).setCell (p_ g 1) (.int .i64 ((m:Int)+(1:Int)))):=λq=>(HO.o.trans (β.drawn _ _ _ q)).setCell (p:=p_ g 1) (le_ _) (D_ _) _);(have HST:=H_ (a_ hstep hout);have hxl:x.length<=199:=by rw[hx,am_];omega);rw[<-hx]at hexW HLF;have HX:=H_ hx;clear hstep hout hx;have⟨wx,hwx⟩:=ex_ ((w1.drewN nq).setCell (p_ g 1) (.int .i64 ((m:Int)+(1:Int))));have HWX:=H_ hwx;have hws:wx=w1.heap.size:=by rw[hwx];simp[World.setCell]
     have HWS:=H_ hws;clear hws;have HKX:=H_ (HST.o.1 nq);have HOX:=H_ (HST.o.2 nq);have HMX:=H_ (HM.o.outside ((β.drawn g (g+1) w1 nq).setCell (p:=p_ g 1) (le_ _) (D_ _) (.int .i64 ((m:Int)+(1:Int)))) hB);rw[<-hwx]at HKX HOX HMX;have hs2:=HOX.o.size;clear hwx HST;by_cases hx1:x.length=1
     ·(obtain⟨d,rfl⟩:=ca_.1 hx1);clear hx1;have hget:∀ hh:0<(ByteArray.mk #[d]).size,(ByteArray.mk #[d])[0]'hh=d:=λ_=>rfl
      (have hcmp:(97<=d.toNat/\d.toNat<=99)\/((97<=d.toNat)/\¬(d.toNat<=99)\/¬(97<=d.toNat)):=by omega);rcases hcmp with⟨h1,h2⟩|h12
      ·(have⟨i97,i99⟩:(97:Int)<=d.toNat/\(d.toNat:Int)<=99:=by omega);(have HRES:=H_ (show ω sum ((33:UInt8) :: [])=some ([16+((d.toNat:Int)-97)],((33:UInt8) :: []).drop 1) by rw[HSF.o,HLF.o,zi5 h1 h2];rfl);go_wp2_with fail);simp only[<-HWX.o];go_ret;have h3:=zaf (16+((d.toNat:Int)-97)) wx;rw[HWS.o]at h3;exact .inl ⟨_,_,HRES.o,ε.mk _ rfl ⟨h3.wide2 hs1 (le_ _),HKX.o.below ((B_ _ _).alloc (le_ _) _) (by omega),HOX.o.below ((B_ _ _).alloc (le_ _) _) (by omega)⟩⟩
      ·(have HWT:=H_ (zf1 (x:=[d]) (by intro d' e;injection e with e _;subst e;omega)));rcases h12 with⟨h1,h2⟩|h1
       ·(have⟨i97,i99⟩:(97:Int)<=d.toNat/\¬(d.toNat:Int)<=99:=by omega);go_wp2_with fail
        simp only[<-HWX.o];refine(zdm [d] _ rfl _ HMX.o.mapT).mono ?_;rintro e1 w2 ⟨rfl,rfl⟩;cases hrt:zbo [d] with
        | some k=>
         have HRES:=H_ (show ω sum ((33:UInt8) :: [])=some ([(k:Int)],((33:UInt8) :: []).drop 1) by rw[HSF.o,HLF.o,HWT.o,hrt];rfl);rw[show rdT (some k)=.tuple #[.int .i64 k,.bool true] from rfl];clear hrt;go_wp2;go_ret;exact .inl ⟨_,_,HRES.o,ε.mk _ rfl ⟨(zaf _ _).wide2 hs2 (le_ _),HKX.o.below ((B_ _ _).alloc (le_ _) _) (by omega),HOX.o.below ((B_ _ _).alloc (le_ _) _) (by omega)⟩⟩
        | none=>
         have HRES:=H_ (show ω sum ((33:UInt8) :: [])=none by rw[HSF.o,HLF.o,HWT.o,hrt];rfl);rw[show rdT none=.tuple #[.int .i64 (-1),.bool false] from rfl];clear hrt;go_wp2;exact⟨rfl,.inr ⟨HRES.o,rfl,HOX.o⟩⟩
       ·(have i97:¬(97:Int)<=d.toNat:=by omega);go_wp2_with fail
        simp only[<-HWX.o];refine(zdm [d] _ rfl _ HMX.o.mapT).mono ?_;rintro e1 w2 ⟨rfl,rfl⟩;cases hrt:zbo [d] with
        | some k=>
         have HRES:=H_ (show ω sum ((33:UInt8) :: [])=some ([(k:Int)],((33:UInt8) :: []).drop 1) by rw[HSF.o,HLF.o,HWT.o,hrt];rfl);rw[show rdT (some k)=.tuple #[.int .i64 k,.bool true] from rfl];clear hrt;go_wp2;go_ret;exact .inl ⟨_,_,HRES.o,ε.mk _ rfl ⟨(zaf _ _).wide2 hs2 (le_ _),HKX.o.below ((B_ _ _).alloc (le_ _) _) (by omega),HOX.o.below ((B_ _ _).alloc (le_ _) _) (by omega)⟩⟩
        | none=>
         have HRES:=H_ (show ω sum ((33:UInt8) :: [])=none by rw[HSF.o,HLF.o,HWT.o,hrt];rfl);rw[show rdT none=.tuple #[.int .i64 (-1),.bool false] from rfl];clear hrt;go_wp2;exact⟨rfl,.inr ⟨HRES.o,rfl,HOX.o⟩⟩
     ·(have hx1i:((x.length:Int)==1)=false:=by simp;omega);(have HWT:=H_ (zf1 (x:=x) (by intro d' e;rw[e] at hx1;exact absurd rfl hx1));go_wp2_with fail);simp only[<-HWX.o];refine(zdm x _ rfl _ HMX.o.mapT).mono ?_;rintro e1 w2 ⟨rfl,rfl⟩;cases hrt:zbo x with
      | some k=>
       have HRES:=H_ (show ω sum ((33:UInt8) :: [])=some ([(k:Int)],((33:UInt8) :: []).drop 1) by rw[HSF.o,HLF.o,HWT.o,hrt];rfl);rw[show rdT (some k)=.tuple #[.int .i64 k,.bool true] from rfl];clear hrt;go_wp2;go_ret;exact .inl ⟨_,_,HRES.o,ε.mk _ rfl ⟨(zaf _ _).wide2 hs2 (le_ _),HKX.o.below ((B_ _ _).alloc (le_ _) _) (by omega),HOX.o.below ((B_ _ _).alloc (le_ _) _) (by omega)⟩⟩
      | none=>
       have HRES:=H_ (show ω sum ((33:UInt8) :: [])=none by rw[HSF.o,HLF.o,HWT.o,hrt];rfl);rw[show rdT none=.tuple #[.int .i64 (-1),.bool false] from rfl];clear hrt;go_wp2;exact⟨rfl,.inr ⟨HRES.o,rfl,HOX.o⟩⟩
    | cons u t=>
     have hW:zb0 ((33:UInt8) :: u :: t)=2:=by
      show min 2 ((u :: t).length+1)=2
      simp
     (have hWs:2<=((33:UInt8) :: u :: t).length:=by simp);(have hmn:min (2:Int) ((t.length:Int)+1+1)=2:=by omega);(have HLF:=H_ (zi3 hW);clear hW;have⟨j1,j2⟩:(2:Int)<=(((33:UInt8) :: u :: t).length:Int)/\(0:Int)<=(2:Int):=by omega);(have hexW:=zjj ((33:UInt8) :: u :: t) 2;have⟨x,hx⟩:=ex_ (((33:UInt8) :: u :: t).take 2);have hstep:∀ q,KR g ((w1.drewN q).setCell (p_ g 1) (.int .i64 ((m:Int)+(2:Int)))) txt (((33:UInt8) :: u :: t).drop 2):=λq=>by rw[HMM.o];exact HK.o.stepN 2 hWs q);(have hout:∀ q,β g (g+1) w ((w1.drewN q).setCell (p_ g 1) (.int .i64 ((m:Int)+(2:Int)))):=λq=>(HO.o.trans (β.drawn _ _ _ q)).setCell (p:=p_ g 1) (le_ _) (D_ _) _);(have HST:=H_ (a_ hstep hout);have hxl:x.length<=199:=by rw[hx,am_];omega);rw[<-hx]at hexW HLF;have HX:=H_ hx;clear hstep hout hx;have⟨wx,hwx⟩:=ex_ ((w1.drewN nq).setCell (p_ g 1) (.int .i64 ((m:Int)+(2:Int))));have HWX:=H_ hwx;have hws:wx=w1.heap.size:=by rw[hwx];simp[World.setCell]
     have HWS:=H_ hws;clear hws;have HKX:=H_ (HST.o.1 nq);have HOX:=H_ (HST.o.2 nq);have HMX:=H_ (HM.o.outside ((β.drawn g (g+1) w1 nq).setCell (p:=p_ g 1) (le_ _) (D_ _) (.int .i64 ((m:Int)+(2:Int)))) hB);rw[<-hwx]at HKX HOX HMX;have hs2:=HOX.o.size;clear hwx HST;by_cases hx1:x.length=1
     ·(obtain⟨d,rfl⟩:=ca_.1 hx1);clear hx1;have hget:∀ hh:0<(ByteArray.mk #[d]).size,(ByteArray.mk #[d])[0]'hh=d:=λ_=>rfl
      (have hcmp:(97<=d.toNat/\d.toNat<=99)\/((97<=d.toNat)/\¬(d.toNat<=99)\/¬(97<=d.toNat)):=by omega);rcases hcmp with⟨h1,h2⟩|h12
      ·(have⟨i97,i99⟩:(97:Int)<=d.toNat/\(d.toNat:Int)<=99:=by omega);(have HRES:=H_ (show ω sum ((33:UInt8) :: u :: t)=some ([16+((d.toNat:Int)-97)],((33:UInt8) :: u :: t).drop 2) by rw[HSF.o,HLF.o,zi5 h1 h2];rfl);go_wp2_with fail);simp only[<-HWX.o];go_ret;have h3:=zaf (16+((d.toNat:Int)-97)) wx;rw[HWS.o]at h3;exact .inl ⟨_,_,HRES.o,ε.mk _ rfl ⟨h3.wide2 hs1 (le_ _),HKX.o.below ((B_ _ _).alloc (le_ _) _) (by omega),HOX.o.below ((B_ _ _).alloc (le_ _) _) (by omega)⟩⟩
      ·(have HWT:=H_ (zf1 (x:=[d]) (by intro d' e;injection e with e _;subst e;omega)));rcases h12 with⟨h1,h2⟩|h1
       ·(have⟨i97,i99⟩:(97:Int)<=d.toNat/\¬(d.toNat:Int)<=99:=by omega);go_wp2_with fail
        simp only[<-HWX.o];refine(zdm [d] _ rfl _ HMX.o.mapT).mono ?_;rintro e1 w2 ⟨rfl,rfl⟩;cases hrt:zbo [d] with
        | some k=>
         have HRES:=H_ (show ω sum ((33:UInt8) :: u :: t)=some ([(k:Int)],((33:UInt8) :: u :: t).drop 2) by rw[HSF.o,HLF.o,HWT.o,hrt];rfl);rw[show rdT (some k)=.tuple #[.int .i64 k,.bool true] from rfl];clear hrt;go_wp2;go_ret;exact .inl ⟨_,_,HRES.o,ε.mk _ rfl ⟨(zaf _ _).wide2 hs2 (le_ _),HKX.o.below ((B_ _ _).alloc (le_ _) _) (by omega),HOX.o.below ((B_ _ _).alloc (le_ _) _) (by omega)⟩⟩
        | none=>
         have HRES:=H_ (show ω sum ((33:UInt8) :: u :: t)=none by rw[HSF.o,HLF.o,HWT.o,hrt];rfl);rw[show rdT none=.tuple #[.int .i64 (-1),.bool false] from rfl];clear hrt;go_wp2;exact⟨rfl,.inr ⟨HRES.o,rfl,HOX.o⟩⟩
       ·(have i97:¬(97:Int)<=d.toNat:=by omega);go_wp2_with fail
        simp only[<-HWX.o];refine(zdm [d] _ rfl _ HMX.o.mapT).mono ?_;rintro e1 w2 ⟨rfl,rfl⟩;cases hrt:zbo [d] with
        | some k=>
         have HRES:=H_ (show ω sum ((33:UInt8) :: u :: t)=some ([(k:Int)],((33:UInt8) :: u :: t).drop 2) by rw[HSF.o,HLF.o,HWT.o,hrt];rfl);rw[show rdT (some k)=.tuple #[.int .i64 k,.bool true] from rfl];clear hrt;go_wp2;go_ret;exact .inl ⟨_,_,HRES.o,ε.mk _ rfl ⟨(zaf _ _).wide2 hs2 (le_ _),HKX.o.below ((B_ _ _).alloc (le_ _) _) (by omega),HOX.o.below ((B_ _ _).alloc (le_ _) _) (by omega)⟩⟩
        | none=>
         have HRES:=H_ (show ω sum ((33:UInt8) :: u :: t)=none by rw[HSF.o,HLF.o,HWT.o,hrt];rfl);rw[show rdT none=.tuple #[.int .i64 (-1),.bool false] from rfl];clear hrt;go_wp2;exact⟨rfl,.inr ⟨HRES.o,rfl,HOX.o⟩⟩
     ·(have hx1i:((x.length:Int)==1)=false:=by simp;omega);(have HWT:=H_ (zf1 (x:=x) (by intro d' e;rw[e] at hx1;exact absurd rfl hx1));go_wp2_with fail);simp only[<-HWX.o];refine(zdm x _ rfl _ HMX.o.mapT).mono ?_;rintro e1 w2 ⟨rfl,rfl⟩;cases hrt:zbo x with
      | some k=>
       have HRES:=H_ (show ω sum ((33:UInt8) :: u :: t)=some ([(k:Int)],((33:UInt8) :: u :: t).drop 2) by rw[HSF.o,HLF.o,HWT.o,hrt];rfl);rw[show rdT (some k)=.tuple #[.int .i64 k,.bool true] from rfl];clear hrt;go_wp2;go_ret;exact .inl ⟨_,_,HRES.o,ε.mk _ rfl ⟨(zaf _ _).wide2 hs2 (le_ _),HKX.o.below ((B_ _ _).alloc (le_ _) _) (by omega),HOX.o.below ((B_ _ _).alloc (le_ _) _) (by omega)⟩⟩
      | none=>
       have HRES:=H_ (show ω sum ((33:UInt8) :: u :: t)=none by rw[HSF.o,HLF.o,HWT.o,hrt];rfl);rw[show rdT none=.tuple #[.int .i64 (-1),.bool false] from rfl];clear hrt;go_wp2;exact⟨rfl,.inr ⟨HRES.o,rfl,HOX.o⟩⟩
   ·rw[zjd 33 c t (by simpa using h33)]
    go_wp2_with fail
    refine(Tryz.strings_HasPrefix _ _ _).mono ?_;rintro e1 w2 ⟨rfl,rfl⟩;by_cases h91:c.toNat=91
    ·obtain rfl:c=91:=by
      have:c.toNat=(91:UInt8).toNat:=h91;exact cw_.1 this
     rw[zq6];obtain⟨W,hWs,hW,hidx⟩:=ztz (t:=t) h91;have HLF:=H_ (zi3 hW);have HIX:=H_ hidx;clear hW h91 h33 hidx;go_wp2_with fail
     refine(Tryz.strings_IndexByte _ _ _).mono ?_;rintro e1 w2 ⟨rfl,rfl⟩;rw[show Lib.indexByte (ByteArray.mk ((91:UInt8) :: t).toArray).data.toList (Int.toNat 93).toUInt8=(W:Int)-1 from HIX.o];have hmn:IntKind.i64.wrap ((W:Int)-1+1)=(W:Int):=by simp[IntKind.wrap,IntKind.bits,IntKind.signed];omega
     (have⟨hmn2,j1,j2⟩:(W:Int)-1+1=(W:Int)/\(W:Int)<=(((91:UInt8) :: t).length:Int)/\(0:Int)<=(W:Int):=by omega);(have hexW:=zjj ((91:UInt8) :: t) W;have⟨x,hx⟩:=ex_ (((91:UInt8) :: t).take W);have hstep:∀ q,KR g ((w1.drewN q).setCell (p_ g 1) (.int .i64 ((m:Int)+(W:Int)))) txt (((91:UInt8) :: t).drop W):=λq=>by rw[HMM.o];exact HK.o.stepN W hWs q);(have hout:∀ q,β g (g+1) w ((w1.drewN q).setCell (p_ g 1) (.int .i64 ((m:Int)+(W:Int)))):=λq=>(HO.o.trans (β.drawn _ _ _ q)).setCell (p:=p_ g 1) (le_ _) (D_ _) _);(have HST:=H_ (a_ hstep hout);have hxl:x.length<=199:=by rw[hx,am_];omega);rw[<-hx]at hexW HLF;have HX:=H_ hx;clear hstep hout hx;have⟨wx,hwx⟩:=ex_ ((w1.drewN nq).setCell (p_ g 1) (.int .i64 ((m:Int)+(W:Int))));have HWX:=H_ hwx;have hws:wx=w1.heap.size:=by rw[hwx];simp[World.setCell]
     have HWS:=H_ hws;clear hws;have HKX:=H_ (HST.o.1 nq);have HOX:=H_ (HST.o.2 nq);have HMX:=H_ (HM.o.outside ((β.drawn g (g+1) w1 nq).setCell (p:=p_ g 1) (le_ _) (D_ _) (.int .i64 ((m:Int)+(W:Int)))) hB);rw[<-hwx]at HKX HOX HMX;have hs2:=HOX.o.size;clear hwx HST;by_cases hx1:x.length=1
     ·(obtain⟨d,rfl⟩:=ca_.1 hx1);clear hx1;have hget:∀ hh:0<(ByteArray.mk #[d]).size,(ByteArray.mk #[d])[0]'hh=d:=λ_=>rfl
      (have hcmp:(97<=d.toNat/\d.toNat<=99)\/((97<=d.toNat)/\¬(d.toNat<=99)\/¬(97<=d.toNat)):=by omega);rcases hcmp with⟨h1,h2⟩|h12
      ·(have⟨i97,i99⟩:(97:Int)<=d.toNat/\(d.toNat:Int)<=99:=by omega);(have HRES:=H_ (show ω sum ((91:UInt8) :: t)=some ([16+((d.toNat:Int)-97)],((91:UInt8) :: t).drop W) by rw[HSF.o,HLF.o,zi5 h1 h2];rfl);go_wp2_with fail);simp only[<-HWX.o];go_ret;have h3:=zaf (16+((d.toNat:Int)-97)) wx;rw[HWS.o]at h3;exact .inl ⟨_,_,HRES.o,ε.mk _ rfl ⟨h3.wide2 hs1 (le_ _),HKX.o.below ((B_ _ _).alloc (le_ _) _) (by omega),HOX.o.below ((B_ _ _).alloc (le_ _) _) (by omega)⟩⟩
      ·(have HWT:=H_ (zf1 (x:=[d]) (by intro d' e;injection e with e _;subst e;omega)));rcases h12 with⟨h1,h2⟩|h1
       ·(have⟨i97,i99⟩:(97:Int)<=d.toNat/\¬(d.toNat:Int)<=99:=by omega);go_wp2_with fail
        simp only[<-HWX.o];refine(zdm [d] _ rfl _ HMX.o.mapT).mono ?_;rintro e1 w2 ⟨rfl,rfl⟩;cases hrt:zbo [d] with
        | some k=>
         have HRES:=H_ (show ω sum ((91:UInt8) :: t)=some ([(k:Int)],((91:UInt8) :: t).drop W) by rw[HSF.o,HLF.o,HWT.o,hrt];rfl);rw[show rdT (some k)=.tuple #[.int .i64 k,.bool true] from rfl];clear hrt;go_wp2;go_ret;exact .inl ⟨_,_,HRES.o,ε.mk _ rfl ⟨(zaf _ _).wide2 hs2 (le_ _),HKX.o.below ((B_ _ _).alloc (le_ _) _) (by omega),HOX.o.below ((B_ _ _).alloc (le_ _) _) (by omega)⟩⟩
        | none=>
         have HRES:=H_ (show ω sum ((91:UInt8) :: t)=none by rw[HSF.o,HLF.o,HWT.o,hrt];rfl);rw[show rdT none=.tuple #[.int .i64 (-1),.bool false] from rfl];clear hrt;go_wp2;exact⟨rfl,.inr ⟨HRES.o,rfl,HOX.o⟩⟩
       ·(have i97:¬(97:Int)<=d.toNat:=by omega);go_wp2_with fail
        simp only[<-HWX.o];refine(zdm [d] _ rfl _ HMX.o.mapT).mono ?_;rintro e1 w2 ⟨rfl,rfl⟩;cases hrt:zbo [d] with
        | some k=>
         have HRES:=H_ (show ω sum ((91:UInt8) :: t)=some ([(k:Int)],((91:UInt8) :: t).drop W) by rw[HSF.o,HLF.o,HWT.o,hrt];rfl);rw[show rdT (some k)=.tuple #[.int .i64 k,.bool true] from rfl];clear hrt;go_wp2;go_ret;exact .inl ⟨_,_,HRES.o,ε.mk _ rfl ⟨(zaf _ _).wide2 hs2 (le_ _),HKX.o.below ((B_ _ _).alloc (le_ _) _) (by omega),HOX.o.below ((B_ _ _).alloc (le_ _) _) (by omega)⟩⟩
        | none=>
         have HRES:=H_ (show ω sum ((91:UInt8) :: t)=none by rw[HSF.o,HLF.o,HWT.o,hrt];rfl);rw[show rdT none=.tuple #[.int .i64 (-1),.bool false] from rfl];clear hrt;go_wp2;exact⟨rfl,.inr ⟨HRES.o,rfl,HOX.o⟩⟩
     ·(have hx1i:((x.length:Int)==1)=false:=by simp;omega);(have HWT:=H_ (zf1 (x:=x) (by intro d' e;rw[e] at hx1;exact absurd rfl hx1));go_wp2_with fail);simp only[<-HWX.o];refine(zdm x _ rfl _ HMX.o.mapT).mono ?_;rintro e1 w2 ⟨rfl,rfl⟩;cases hrt:zbo x with
      | some k=>
       have HRES:=H_ (show ω sum ((91:UInt8) :: t)=some ([(k:Int)],((91:UInt8) :: t).drop W) by rw[HSF.o,HLF.o,HWT.o,hrt];rfl);rw[show rdT (some k)=.tuple #[.int .i64 k,.bool true] from rfl];clear hrt;go_wp2;go_ret;exact .inl ⟨_,_,HRES.o,ε.mk _ rfl ⟨(zaf _ _).wide2 hs2 (le_ _),HKX.o.below ((B_ _ _).alloc (le_ _) _) (by omega),HOX.o.below ((B_ _ _).alloc (le_ _) _) (by omega)⟩⟩
      | none=>
       have HRES:=H_ (show ω sum ((91:UInt8) :: t)=none by rw[HSF.o,HLF.o,HWT.o,hrt];rfl);rw[show rdT none=.tuple #[.int .i64 (-1),.bool false] from rfl];clear hrt;go_wp2;exact⟨rfl,.inr ⟨HRES.o,rfl,HOX.o⟩⟩
    ·rw[zjd 91 c t (by simpa using h91)]
     have hW:zb0 (c :: t)=1:=by
      show (if c.toNat=33 then _ else if c.toNat=91 then _ else 1)=1
      rw[m_ h33,m_ h91]
     (have⟨W,hWW⟩:=ex_ 1;rw[<-hWW]at hW;have hWs:W<=(c :: t).length:=by simp;omega);(have HLF:=H_ (zi3 hW);clear hW h33 h91;obtain rfl:W=1:=hWW;have⟨j1,j2⟩:(1:Int)<=((c :: t).length:Int)/\(0:Int)<=(1:Int):=by omega);(have hexW:=zjj (c :: t) 1;have⟨x,hx⟩:=ex_ ((c :: t).take 1);have hstep:∀ q,KR g ((w1.drewN q).setCell (p_ g 1) (.int .i64 ((m:Int)+(1:Int)))) txt ((c :: t).drop 1):=λq=>by rw[HMM.o];exact HK.o.stepN 1 hWs q);(have hout:∀ q,β g (g+1) w ((w1.drewN q).setCell (p_ g 1) (.int .i64 ((m:Int)+(1:Int)))):=λq=>(HO.o.trans (β.drawn _ _ _ q)).setCell (p:=p_ g 1) (le_ _) (D_ _) _);(have HST:=H_ (a_ hstep hout);have hxl:x.length<=199:=by rw[hx,am_];omega);rw[<-hx]at hexW HLF;have HX:=H_ hx;clear hstep hout hx;have⟨wx,hwx⟩:=ex_ ((w1.drewN nq).setCell (p_ g 1) (.int .i64 ((m:Int)+(1:Int))));have HWX:=H_ hwx;have hws:wx=w1.heap.size:=by rw[hwx];simp[World.setCell]
     have HWS:=H_ hws;clear hws;have HKX:=H_ (HST.o.1 nq);have HOX:=H_ (HST.o.2 nq);have HMX:=H_ (HM.o.outside ((β.drawn g (g+1) w1 nq).setCell (p:=p_ g 1) (le_ _) (D_ _) (.int .i64 ((m:Int)+(1:Int)))) hB);rw[<-hwx]at HKX HOX HMX;have hs2:=HOX.o.size;clear hwx HST;by_cases hx1:x.length=1
     ·(obtain⟨d,rfl⟩:=ca_.1 hx1);clear hx1;have hget:∀ hh:0<(ByteArray.mk #[d]).size,(ByteArray.mk #[d])[0]'hh=d:=λ_=>rfl
      (have hcmp:(97<=d.toNat/\d.toNat<=99)\/((97<=d.toNat)/\¬(d.toNat<=99)\/¬(97<=d.toNat)):=by omega);rcases hcmp with⟨h1,h2⟩|h12
      ·(have⟨i97,i99⟩:(97:Int)<=d.toNat/\(d.toNat:Int)<=99:=by omega);(have HRES:=H_ (show ω sum (c :: t)=some ([16+((d.toNat:Int)-97)],(c :: t).drop 1) by rw[HSF.o,HLF.o,zi5 h1 h2];rfl);go_wp2_with fail);simp only[<-HWX.o];go_ret;have h3:=zaf (16+((d.toNat:Int)-97)) wx;rw[HWS.o]at h3;exact .inl ⟨_,_,HRES.o,ε.mk _ rfl ⟨h3.wide2 hs1 (le_ _),HKX.o.below ((B_ _ _).alloc (le_ _) _) (by omega),HOX.o.below ((B_ _ _).alloc (le_ _) _) (by omega)⟩⟩
      ·(have HWT:=H_ (zf1 (x:=[d]) (by intro d' e;injection e with e _;subst e;omega)));rcases h12 with⟨h1,h2⟩|h1
       ·(have⟨i97,i99⟩:(97:Int)<=d.toNat/\¬(d.toNat:Int)<=99:=by omega);go_wp2_with fail
        simp only[<-HWX.o];refine(zdm [d] _ rfl _ HMX.o.mapT).mono ?_;rintro e1 w2 ⟨rfl,rfl⟩;cases hrt:zbo [d] with
        | some k=>
         have HRES:=H_ (show ω sum (c :: t)=some ([(k:Int)],(c :: t).drop 1) by rw[HSF.o,HLF.o,HWT.o,hrt];rfl);rw[show rdT (some k)=.tuple #[.int .i64 k,.bool true] from rfl];clear hrt;go_wp2;go_ret;exact .inl ⟨_,_,HRES.o,ε.mk _ rfl ⟨(zaf _ _).wide2 hs2 (le_ _),HKX.o.below ((B_ _ _).alloc (le_ _) _) (by omega),HOX.o.below ((B_ _ _).alloc (le_ _) _) (by omega)⟩⟩
        | none=>
         have HRES:=H_ (show ω sum (c :: t)=none by rw[HSF.o,HLF.o,HWT.o,hrt];rfl);rw[show rdT none=.tuple #[.int .i64 (-1),.bool false] from rfl];clear hrt;go_wp2;exact⟨rfl,.inr ⟨HRES.o,rfl,HOX.o⟩⟩
       ·(have i97:¬(97:Int)<=d.toNat:=by omega);go_wp2_with fail
        simp only[<-HWX.o];refine(zdm [d] _ rfl _ HMX.o.mapT).mono ?_;rintro e1 w2 ⟨rfl,rfl⟩;cases hrt:zbo [d] with
        | some k=>
         have HRES:=H_ (show ω sum (c :: t)=some ([(k:Int)],(c :: t).drop 1) by rw[HSF.o,HLF.o,HWT.o,hrt];rfl);rw[show rdT (some k)=.tuple #[.int .i64 k,.bool true] from rfl];clear hrt;go_wp2;go_ret;exact .inl ⟨_,_,HRES.o,ε.mk _ rfl ⟨(zaf _ _).wide2 hs2 (le_ _),HKX.o.below ((B_ _ _).alloc (le_ _) _) (by omega),HOX.o.below ((B_ _ _).alloc (le_ _) _) (by omega)⟩⟩
        | none=>
         have HRES:=H_ (show ω sum (c :: t)=none by rw[HSF.o,HLF.o,HWT.o,hrt];rfl);rw[show rdT none=.tuple #[.int .i64 (-1),.bool false] from rfl];clear hrt;go_wp2;exact⟨rfl,.inr ⟨HRES.o,rfl,HOX.o⟩⟩
     ·(have hx1i:((x.length:Int)==1)=false:=by simp;omega);(have HWT:=H_ (zf1 (x:=x) (by intro d' e;rw[e] at hx1;exact absurd rfl hx1));go_wp2_with fail);simp only[<-HWX.o];refine(zdm x _ rfl _ HMX.o.mapT).mono ?_;rintro e1 w2 ⟨rfl,rfl⟩;cases hrt:zbo x with
      | some k=>
       have HRES:=H_ (show ω sum (c :: t)=some ([(k:Int)],(c :: t).drop 1) by rw[HSF.o,HLF.o,HWT.o,hrt];rfl);rw[show rdT (some k)=.tuple #[.int .i64 k,.bool true] from rfl];clear hrt;go_wp2;go_ret;exact .inl ⟨_,_,HRES.o,ε.mk _ rfl ⟨(zaf _ _).wide2 hs2 (le_ _),HKX.o.below ((B_ _ _).alloc (le_ _) _) (by omega),HOX.o.below ((B_ _ _).alloc (le_ _) _) (by omega)⟩⟩
      | none=>
       have HRES:=H_ (show ω sum (c :: t)=none by rw[HSF.o,HLF.o,HWT.o,hrt];rfl);rw[show rdT none=.tuple #[.int .i64 (-1),.bool false] from rfl];clear hrt;go_wp2;exact⟨rfl,.inr ⟨HRES.o,rfl,HOX.o⟩⟩
theorem zjz{sum:PR}(h:zcd sum):zcd (ω sum):=by
 intro s e r hs;cases s with
 | nil=>cases hs
 | cons c t=>
  simp only[ω]at hs
  split at hs
  ·split at hs
   ·rename_i e' d r2 he
    split at hs
    ·injection hs with hs
     injection hs with h1 h2;subst h1 h2;have:=h _ _ _ he;simp at this ⊢;omega
    ·cases hs
   ·cases hs
  ·obtain⟨h1,h2⟩:=zoo hs
   simp only[zdv,W_]at hs;obtain⟨k,_,hk⟩:=hs;injection hk with hk1 hk2;subst hk1;rw[h2,af_];have:=zrz (c :: t);simp only[cs_];omega
theorem zim:∀ n,zcd (zad n)
 | 0=>by intro s e r h;cases h
 | n+1=>zgv (zgv (zfn (zjz (zim n))))
theorem zrt:∀ n,Tot 68 (zad n) n
 | 0=>by intro B g w txt s hk hn;exact absurd hn (Nat.not_lt_zero _)
 | n+1=>zwc _ _ (zgv (zfn (zjz (zim n)))) (zti _ _ (zfn (zjz (zim n))) (zvg _ _ (zjz (zim n)) (z1f _ _ (zrt n))))
theorem zvo(g:Nat)(x:Value)(b:Bool)(w:World)(hp:Blk g (.cells #[x] 22) w)(hq:Blk (g+1) (.cells #[.bool b] 4) w):
  CallsD prog 67 #[.pointer (q_ g 0),.pointer (q_ (g+1) 0)] (.panicking zm3) w λe u' w'=>e=.returned (.tuple #[])/\u'=.panicking [{ v:=.iface 84 (.agg #[]),recovered:=true }] /\
   w'=((w.alloc (.cells #[] 84)).setCell (p_ g 0) ()).setCell (p_ (g+1) 0) (.bool false):=by
 unfold zm3;have hta:∀ w:World,(Instr.typeAssert (.iface 84 (.agg #[])) 20 84 true).run prog w=.ok (.tuple #[.agg #[],.bool true]) w:=λ_=>by rfl
 have hpa:=hp.below (η w (.cells #[] 84)) hp.lt;have hqa:=hq.below (η w (.cells #[] 84)) hq.lt;have c0:=hpa.cell 0;have f0:=hpa.free 0;have c1:((w.alloc (.cells #[] 84)).setCell (p_ g 0) ()).cell? (p_ (g+1) 0)=some (.bool b):=(ae_ _ _ _ _ (by simp)).trans (hqa.cell 0)
 have f1:((w.alloc (.cells #[] 84)).setCell (p_ g 0) ()).frozen? (p_ (g+1) 0)=false:=by
  have hO:=β.put g 0 (w.alloc (.cells #[] 84)) ();exact(zaz hqa hO (.inr (by omega))).free 0
 refine callsD_of_wpS func67 rfl λc₀ cs hu=>?_
 apply wpS_seq;apply wpS_region;simp[wpOpsS,go_sem,recoverD,hu,ntmps67,Exit.thenS];refine wpS_of_wp ?_
 change Code.wp _ _ _ { tmps:=#[.pointer (q_ g 0),.pointer (q_ (g+1) 0),undef,undef,undef,.iface 84 (.agg #[]),undef,undef,undef,undef,undef],defers:=[] } w
 go_wp2;cases c₀
 simp_all [bodyPostS,results,results67]
def RetVK(P:Value->Bool->World->Prop)(e:Ending)(w':World):Prop:=∃ v b,e=.returned (.tuple #[v,.bool b])/\P v b w'
theorem z2t{s:List UInt8}(h:¬s.length<=199):zds s=none:=by rw[zds,m_ h]
theorem zwh{s:List UInt8}(h:s.length<=199):zds s=match zad 200 s with
  | some (e,[])=>if μ e then some e else none
  | _=>none:=by
 rw[zds,x_ h,zsb h (n:=200) (by omega)];cases zad 100 s with
 | none=>rfl
 | some x=>
  obtain⟨e,r⟩:=x;cases r<;>rfl
theorem z0f(txt:List UInt8)(s:ByteArray)(hs:s=⟨txt.toArray⟩)(w:World)(hM:zdb w)(hl:txt.length<=1048576):
  Calls prog 26 #[.string s] w (RetVK λv ok w'=>ok=(zds txt).isSome/\γ w w' 3 w' v ((zds txt).getD [])/\Below w w w'):=by
 subst hs;have hmf:∀ (fn:Fn) (first cap:Array Value) (w:World),(Instr.makeFunc fn first cap).run prog w=.ok (.func fn first cap) w:=λ_ _ _ _=>rfl
 have HM:=H_ hM.mapB;clear hM;by_cases h199:txt.length<=199
 ·have HRF:=H_ (zwh h199)
  have⟨w3,hw3⟩:=ex_ (((w.alloc (.cells #[()] 22)).alloc (.cells #[.bool false] 4)).alloc (.cells #[.string ⟨txt.toArray⟩,(0:Int)] 87));have hb:Below w w w3:=by rw[hw3];exact(((B_ _ _).alloc (le_ _) _).alloc (by simp) _).alloc (by simp;omega) _
  have hsz:w3=w.heap.size+3:=by rw[hw3];simp
  have hh0:Blk w (.cells #[()] 22) w3:=by
   rw[hw3];exact((κ w _).below ((B_ _ _).alloc (le_ _) _) (by simp)).below ((B_ _ _).alloc (le_ _) _) (by simp;omega)
  have hh1:Blk (w+1) (.cells #[.bool false] 4) w3:=by
   have h:=κ (w.alloc (.cells #[()] 22)) (.cells #[.bool false] 4);rw[ν]at h;rw[hw3];exact h.below ((B_ _ _).alloc (le_ _) _) (by simp)
  have hh2:Blk (w+2) (.cells #[.string ⟨txt.toArray⟩,(0:Int)] 87) w3:=by
   have h:=κ ((w.alloc (.cells #[()] 22)).alloc (.cells #[.bool false] 4)) (.cells #[.string ⟨txt.toArray⟩,(0:Int)] 87);rw[ν,ν]at h;rw[hw3];exact h
  have HK:=H_ (show KR (w+2) w3 txt txt from ⟨by rw[show w3.heap[w.heap.size+2]?=_ from hh2];simp,by simp,le_ _,h199⟩);have HB:=H_ hb;have HW:=H_ hw3;have H0:=H_ hh0;have H1:=H_ hh1;clear hh0 hh1 hh2 hb hw3;replace HM:=H_ (HM.o.below HB.o (le_ _))
  go_enter_defers func26,ntmps26
  go_wp2_with fail
  simp only[<-HW.o];refine(zrt 200 w (w+2) w3 txt txt HK.o (by omega) (by omega) HM.o).mono ?_;rintro e' w4 (⟨e,r,hp,v,rfl,hown,hk,ho⟩|⟨hp,rfl,ho⟩)
  ·obtain⟨a,cap,rfl,_⟩:=ζ hown
   have hs4:=ho.size;replace H0:=H_ (zaz H0.o ho (.inl (by omega)));replace H1:=H_ (zaz H1.o ho (.inl (by omega)));replace HB:=H_ (δ HB.o ho (by omega) HB.o.size);have HV:=H_ hown;have HP:=H_ hp;obtain⟨k1,k2,k3,_⟩:=hk;have c1:w4.cell? (p_ (w+2) 1)=some (.int .i64 ((txt.length-r.length:Nat):Int)):=by rw[al_ k1];rfl
   have helen:e.length<=1048576:=by have:=zim 200 _ _ _ hp;omega
   clear k1 k2 ho hown HK hp;have e0:w4.cell? (p_ w 0)=some (.slice none 0 0):=H0.o.cell 0;have e1:w4.cell? (p_ (w+1) 0)=some (.bool false):=H1.o.cell 0;have f0:w4.frozen? (p_ w 0)=false:=H0.o.free 0;have f1:w4.frozen? (p_ (w+1) 0)=false:=H1.o.free 0;cases r with
   | nil=>
    simp only[an_,d8_]at c1;cases hkv:μ e
    ·(have HRES:=H_ (show zds txt=none by rw[HRF.o,HP.o];simp[hkv]));go_wp2_with fail
     refine(zc5 _ _ _ e _ HV.o.sl helen).mono ?_;rintro e' w5 ⟨rfl,rfl⟩;rw[hkv];go_wp2;have⟨wz,hwz⟩:=ex_ ((w4.setCell (p_ w 0) ()).setCell (p_ (w+1) 0) (.bool false))
     have hoz:β w (w+2) w4 wz:=by
      rw[hwz];exact((β.refl _ _ _).setCell (p:=p_ w 0) (le_ _) (by show w.heap.size<_;omega) _).setCell (p:=p_ (w+1) 0) (by show w<=w.heap.size+1;omega) (by show w.heap.size+1<_;omega) _
     have z0:wz.cell? (p_ w 0)=some (.slice none 0 0):=by
      rw[hwz];exact(ae_ _ _ _ _ (by simp)).trans (ap_ _ _ _ e0)
     have z1:wz.cell? (p_ (w+1) 0)=some (.bool false):=by
      rw[hwz];exact ap_ _ _ _ ((ae_ _ _ _ _ (by simp)).trans e1)
     simp only[<-hwz];clear hwz;refine cv_ (f:=67) (args:=#[.pointer (q_ w 0),.pointer (q_ (w+1) 0)]) (by simp) (by simp[go_sem]) ?_;refine(zkv _ _ _).mono ?_;rintro e' u' w'' ⟨rfl,rfl,rfl⟩;simp[Go.Leaves,settle,results,results26,go_sem,z0,z1];exact⟨_,_,rfl,by rw[HRES.o];rfl,by rw[HRES.o];exact zaa _ _ _ _ _,δ HB.o hoz (le_ _) HB.o.size⟩
    ·(have HRES:=H_ (show zds txt=some e by rw[HRF.o,HP.o];simp[hkv]));go_wp2_with fail
     refine(zc5 _ _ _ e _ HV.o.sl helen).mono ?_;rintro e' w5 ⟨rfl,rfl⟩;rw[hkv];go_wp2;have⟨wz,hwz⟩:=ex_ ((w4.setCell (p_ w 0) (.slice a e cap)).setCell (p_ (w+1) 0) (.bool true))
     have hoz:β w (w+2) w4 wz:=by
      rw[hwz];exact((β.refl _ _ _).setCell (p:=p_ w 0) (le_ _) (by show w.heap.size<_;omega) _).setCell (p:=p_ (w+1) 0) (by show w<=w.heap.size+1;omega) (by show w.heap.size+1<_;omega) _
     have z0:wz.cell? (p_ w 0)=some (.slice a e cap):=by
      rw[hwz];exact(ae_ _ _ _ _ (by simp)).trans (ap_ _ _ _ e0)
     have z1:wz.cell? (p_ (w+1) 0)=some (.bool true):=by
      rw[hwz];exact ap_ _ _ _ ((ae_ _ _ _ _ (by simp)).trans e1)
     simp only[<-hwz];clear hwz;refine cv_ (f:=67) (args:=#[.pointer (q_ w 0),.pointer (q_ (w+1) 0)]) (by simp) (by simp[go_sem]) ?_;refine(zkv _ _ _).mono ?_;rintro e' u' w'' ⟨rfl,rfl,rfl⟩;simp[Go.Leaves,settle,results,results26,go_sem,z0,z1];exact⟨_,_,rfl,by rw[HRES.o];rfl,by rw[HRES.o];exact(HV.o.outside hoz (.inr (by omega))).wide2 (by omega) hoz.size,δ HB.o hoz (le_ _) HB.o.size⟩
   | cons c r=>
    (have HRES:=H_ (show zds txt=none by rw[HRF.o,HP.o]);simp only[I_]at c1 k3;have l1:(((txt.length-(r.length+1):Nat):Int)<(txt.length:Int)):=by omega);(have⟨at_,hat⟩:=ex_ (txt.length-(r.length+1));rw[<-hat]at c1 l1;clear hat;go_wp2;have⟨wz,hwz⟩:=ex_ ((w4.setCell (p_ w 0) ()).setCell (p_ (w+1) 0) (.bool false)))
    have hoz:β w (w+2) w4 wz:=by
     rw[hwz];exact((β.refl _ _ _).setCell (p:=p_ w 0) (le_ _) (by show w.heap.size<_;omega) _).setCell (p:=p_ (w+1) 0) (by show w<=w.heap.size+1;omega) (by show w.heap.size+1<_;omega) _
    have z0:wz.cell? (p_ w 0)=some (.slice none 0 0):=by
     rw[hwz];exact(ae_ _ _ _ _ (by simp)).trans (ap_ _ _ _ e0)
    have z1:wz.cell? (p_ (w+1) 0)=some (.bool false):=by
     rw[hwz];exact ap_ _ _ _ ((ae_ _ _ _ _ (by simp)).trans e1)
    simp only[<-hwz];clear hwz;refine cv_ (f:=67) (args:=#[.pointer (q_ w 0),.pointer (q_ (w+1) 0)]) (by simp) (by simp[go_sem]) ?_;refine(zkv _ _ _).mono ?_;rintro e' u' w'' ⟨rfl,rfl,rfl⟩;simp[Go.Leaves,settle,results,results26,go_sem,z0,z1];exact⟨_,_,rfl,by rw[HRES.o];rfl,by rw[HRES.o];exact zaa _ _ _ _ _,δ HB.o hoz (le_ _) HB.o.size⟩
  ·have HRES:=H_ (show zds txt=none by rw[HRF.o,hp])
   have hs4:=ho.size;replace H0:=H_ (zaz H0.o ho (.inl (by omega)));replace H1:=H_ (zaz H1.o ho (.inl (by omega)));replace HB:=H_ (δ HB.o ho (by omega) HB.o.size);clear ho hp HK;refine cv_ (f:=67) (args:=#[.pointer (q_ w 0),.pointer (q_ (w+1) 0)]) (by simp) (by simp[go_sem]) ?_;refine(zvo _ _ _ w4 H0.o H1.o).mono ?_;rintro e' u' w'' ⟨rfl,rfl,hwz⟩;have hz4:(w4.alloc (.cells #[] 84)).heap.size=w4.heap.size+1:=ν _ _
   have hoz:β w (w+2) (w4.alloc (.cells #[] 84)) w'':=by
    rw[hwz];exact((β.refl _ _ _).setCell (p:=p_ w 0) (le_ _) (by show w.heap.size<_;omega) _).setCell (p:=p_ (w+1) 0) (by show w<=w.heap.size+1;omega) (by show w.heap.size+1<_;omega) _
   have e0:=(H0.o.below (η w4 (.cells #[] 84)) H0.o.lt).cell 0;have e1:=(H1.o.below (η w4 (.cells #[] 84)) H1.o.lt).cell 0
   have z0:w''.cell? (p_ w 0)=some (.slice none 0 0):=by
    rw[hwz];exact(ae_ _ _ _ _ (by simp)).trans (ap_ _ _ _ e0)
   have z1:w''.cell? (p_ (w+1) 0)=some (.bool false):=by
    rw[hwz];exact ap_ _ _ _ ((ae_ _ _ _ _ (by simp)).trans e1)
   clear hwz;simp[Go.Leaves,settle,results,results26,go_sem,z0,z1];exact⟨_,_,rfl,by rw[HRES.o];rfl,by rw[HRES.o];exact zaa _ _ _ _ _,δ (HB.o.trans ((η w4 _).mono HB.o.size)) hoz (le_ _) (by have:=HB.o.size;omega)⟩
 ·have HRES:=H_ (z2t h199)
  have⟨w2,hw2⟩:=ex_ ((w.alloc (.cells #[()] 22)).alloc (.cells #[.bool false] 4));have hb:Below w w w2:=by rw[hw2];exact((B_ _ _).alloc (le_ _) _).alloc (by simp) _
  have hsz:w2=w.heap.size+2:=by rw[hw2];simp
  have H0:Q_ (Blk w (.cells #[()] 22) w2):=by
   rw[hw2];exact H_ ((κ w _).below ((B_ _ _).alloc (le_ _) _) (by simp))
  have H1:Q_ (Blk (w+1) (.cells #[.bool false] 4) w2):=by
   have h:=κ (w.alloc (.cells #[()] 22)) (.cells #[.bool false] 4);rw[ν]at h;rw[hw2];exact H_ h
  have HB:=H_ hb;have e0:w2.cell? (p_ w 0)=some (.slice none 0 0):=H0.o.cell 0;have e1:w2.cell? (p_ (w+1) 0)=some (.bool false):=H1.o.cell 0;have f0:w2.frozen? (p_ w 0)=false:=H0.o.free 0;have f1:w2.frozen? (p_ (w+1) 0)=false:=H1.o.free 0;rw[hw2]at e0 e1 f0 f1;have HW2:=H_ hw2;clear hw2 hb
  go_enter_defers func26,ntmps26
  go_wp2;simp[bodyPostD,Go.Leaves,results,results26,go_sem,e0,e1];rw[<-HW2.o];exact⟨_,_,rfl,by rw[HRES.o];rfl,by rw[HRES.o];exact zaa _ _ _ _ _,HB.o⟩
theorem Dsk.now_le(D:Dsk):D.now.length<=D.size:=by unfold Dsk.size;omega
theorem zxs{e:List Int}(h:μ e=true):zds (za7 e)=some e:=by
 rw[za7,x_ h];obtain⟨t,h1,h2,_,h4⟩:=zd6 h;rw[<-h2,zcy h1];exact z1l h1 h4
theorem zuv(D:Dsk):zd3 D [32]=(D,zg9):=by
 have hr:zba [32]=none:=by decide
 have hq:NoQ [32]:=⟨by decide,by decide,by decide,by decide,by decide,by decide,by decide,by decide,by decide⟩;unfold zd3;rw[hr];simp only;rw[zmm hq]
theorem zzy(D:Dsk):zd3 D [110,111,119]=(D,za7 D.now):=by
 have hr:zba [110,111,119]=none:=by decide
 unfold zd3;rw[hr];simp only;rw[zmz]
theorem zxg(v:Value)(cs:List Int)(w:World)(hx:SlB 0 w w v cs)(hN:Env w)(hE:za1 w):
  c_ 4 #[v] w true:=by
 have HX:=H_ hx;have HE:=H_ hE;have HN:=H_ hN;obtain⟨⟨a,cap,rfl,hcap,hcm,_⟩,_⟩:=hx;unfold maxLen at hcm;clear hE hN;by_cases hm:cs.length<=1048576
 ·go_enter func4,ntmps4
  go_wp2_with fail
  refine(zz1 _ cs _ HX.o).mono ?_;rintro e w1 ⟨e0,e1,e2,e3,D,s,rfl,hb,hd,hsd,hsz⟩;obtain⟨l,rfl⟩:∃ l:List UInt8,s=⟨l.toArray⟩:=⟨s.data.toList,by cases s;simp⟩;have hll:l.length<=20:=by have h:l.toArray.size<=20:=hsz;simpa using h
  have hs:D.size<=1048576:=by omega
  obtain⟨p0,p1,p2,p3,p4,p5,p6,p7,rfl,rfl,rfl,rfl,_⟩:=hd.shapes;have⟨w2,hw2⟩:=xa_ w1 #[(.slice p0 D.first p1),(.slice p2 D.goal p3),(.slice p4 D.made p5),(.slice p6 D.now p7)] 31;obtain⟨hb2,KD_,hs2⟩:=Μ hw2;have KD:=H_ KD_;have OD:=H_ (hd.below hb2 (le_ _));have hsb:=hb.size;have HB:=H_ (hb.trans (hb2.mono hb.size));obtain⟨R,t,hR⟩:∃ R t,za3 D l=(R,t):=⟨_,_,rfl⟩;have HR:=H_ hR
  have hRs:R.size<=1048576:=by
   have h:=zuf D l;rw[hR]at h;exact J_ h (by omega)
  obtain⟨T,hT⟩:∃ T:ByteArray,T=⟨t.toArray⟩:=⟨_,rfl⟩;have HT:=H_ hT;have htt:(T !=T)=false:=by first | rfl | (show (!(T.data==T.data))=false;simp) | (simp[bne,BEq.beq])
  have⟨k_0,k_1,k_2,k_3⟩:=KD.o.c4;clear hR hT hd hb hb2 KD_ hsz;go_wp2_with fail
  clear k_0 k_1 k_2 k_3;have⟨gd,hgd⟩:=ex_ w1.heap.size;simp only[<-hw2];clear hw2;simp only[<-hgd]at KD
  try simp only[<-hgd]
  have hgd2:gd<w2:=by omega
  clear hgd
  skip
  refine(zlt _ _ _ _ _ _ D l _ rfl _ (HE.o.below HB.o) (HN.o.below HB.o) OD.o (by omega) hs (by omega)).mono ?_;rintro e w3 ⟨d0,d1,d2,d3,S_,rfl,hok,o_,h_⟩;have hs3:=h_.size;replace OD:=H_ (OD.o.below h_ (by omega));replace KD:=H_ (KD.o.below h_ (by omega));replace HB:=HB.tr h_ (by omega);rw[HR.o]at o_ hok;obtain rfl:T=S_:=(hok.trans HT.o.symm).symm;have OX:=H_ o_;clear o_ hok;clear h_;obtain⟨x0,x1,x2,x3,x4,x5,x6,x7,rfl,rfl,rfl,rfl,_⟩:=OX.o.at.shapes;have⟨gx,hg_gx⟩:=ex_ w3.heap.size;have⟨hgl_gx,hlt_KD⟩:w3.heap.size<=gx/\gd<w3:=by omega
  have⟨c_KD_0,c_KD_1,c_KD_2,c_KD_3⟩:=KD.o.c4;go_wp2_with fail
  have⟨w4,hw_⟩:=xa_ w3 #[(.slice x0 R.first x1),(.slice x2 R.goal x3),(.slice x4 R.made x5),(.slice x6 R.now x7)] 31;obtain⟨h_,K_,hs4⟩:=zja hw_;simp only[<-hw_];clear hw_;replace OD:=H_ (OD.o.below h_ (by omega));replace KD:=H_ (KD.o.below h_ (by omega));replace OX:=H_ (OX.o.below h_ (by omega));replace HB:=HB.tr h_ (by omega);have KX:=H_ K_;clear h_ K_;clear c_KD_0 c_KD_1 c_KD_2 c_KD_3;rw[<-hg_gx]at KX;have hgu_gx:gx<w4:=by omega
  have HG_gx:=H_ hg_gx;simp only[<-HG_gx.o];clear hg_gx
  skip
  refine(zt4 _ _ _ _ _ _ D l _ rfl _ OD.o (by omega) hs (by omega)).mono ?_;rintro e w5 ⟨d0,d1,d2,d3,S_,rfl,hok,o_,h_⟩;have hs5:=h_.size;replace OD:=H_ (OD.o.below h_ (by omega));replace KD:=H_ (KD.o.below h_ (by omega));replace OX:=H_ (OX.o.below h_ (by omega));replace KX:=H_ (KX.o.below h_ (by omega));replace HB:=HB.tr h_ (by omega);rw[HR.o]at o_ hok;obtain rfl:T=S_:=(hok.trans HT.o.symm).symm;have OY:=H_ o_;clear o_ hok;clear h_;obtain⟨y0,y1,y2,y3,y4,y5,y6,y7,rfl,rfl,rfl,rfl,_⟩:=OY.o.at.shapes;have⟨gy,hg_gy⟩:=ex_ w5.heap.size;have⟨hgl_gy,hlt_KX⟩:w5.heap.size<=gy/\gx<w5:=by omega
  have⟨c_KX_0,c_KX_1,c_KX_2,c_KX_3⟩:=KX.o.c4;go_wp2_with fail
  have⟨w6,hw_⟩:=xa_ w5 #[(.slice y0 R.first y1),(.slice y2 R.goal y3),(.slice y4 R.made y5),(.slice y6 R.now y7)] 31;obtain⟨h_,K_,hs6⟩:=zja hw_;simp only[<-hw_];clear hw_;replace OD:=H_ (OD.o.below h_ (by omega));replace KD:=H_ (KD.o.below h_ (by omega));replace OX:=H_ (OX.o.below h_ (by omega));replace KX:=H_ (KX.o.below h_ (by omega));replace OY:=H_ (OY.o.below h_ (by omega));replace HB:=HB.tr h_ (by omega);have KY:=H_ K_;clear h_ K_;clear c_KX_0 c_KX_1 c_KX_2 c_KX_3;rw[<-hg_gy]at KY;have hgu_gy:gy<w6:=by omega
  have HG_gy:=H_ hg_gy;simp only[<-HG_gy.o];clear hg_gy
  skip
  refine(zkm _ _ _ _ _ _ _ _ _ _ _ _ R _ OX.o.at OY.o.at (by omega) (by omega) hRs).mono ?_;rintro e w7 ⟨rfl,h_⟩;have hs7:=h_.size;replace OD:=H_ (OD.o.below h_ (by omega));replace KD:=H_ (KD.o.below h_ (by omega));replace OX:=H_ (OX.o.below h_ (by omega));replace KX:=H_ (KX.o.below h_ (by omega));replace HB:=HB.tr h_ (by omega);clear h_;clear KY;clear OY;have⟨c_KD_0,c_KD_1,c_KD_2,c_KD_3⟩:=KD.o.c4;go_wp2_with fail
  clear c_KD_0 c_KD_1 c_KD_2 c_KD_3;refine(zge _ _ _ _ _ _ D _ OD.o (by omega) hs).mono ?_;rintro e w8 ⟨rfl,h_⟩;have hs8:=h_.size;replace OD:=H_ (OD.o.below h_ (by omega));replace KD:=H_ (KD.o.below h_ (by omega));replace OX:=H_ (OX.o.below h_ (by omega));replace KX:=H_ (KX.o.below h_ (by omega));replace HB:=HB.tr h_ (by omega);clear h_;by_cases hv:Θ D=true
  ·rw[hv]
   have HV:=H_ hv;have hlv:za3 D l=zd3 D l:=by unfold za3;rw[hv];rfl
   have HVR:=H_ (show Θ R=true by have h:=zw5 l hv;rw[HR.o] at h;exact h);have HWT:=H_ (show za3 D [32]=(D,zg9) by unfold za3;rw[hv];exact zuv D);have HNW:=H_ (show za3 D [110,111,119]=(D,za7 D.now) by unfold za3;rw[hv];exact zzy D);have HRF:=H_ (zxs (zch hv).2.2.1)
   have hcase:T.toList=[111,107]\/¬T.toList=[111,107]/\R=D:=by
    have h:=HR.o;rw[hlv]at h;unfold zd3 at h;cases ha:zba l with
    | none=>
     rw[ha]at h;simp only[bf_]at h;by_cases ht:T.toList=[111,107]
     ·exact .inl ht
     ·exact .inr ⟨ht,h.1.symm⟩
    | some A=>
     rw[ha]at h;simp only[bf_]at h;cases hd:(Χ D A).2 with
     | true=>
      rw[hd]at h;exact .inl (by rw[HT.o,<-h.2];first | rfl | simp[okT] | decide)
     | false=>
      rw[hd]at h;by_cases ht:T.toList=[111,107]
      ·exact .inl ht
      ·exact .inr ⟨ht,by rw[<-h.1];exact zwx hv hd⟩
   have HCS:=H_ hcase;obtain⟨wt,hwt⟩:∃ wt:ByteArray,wt=⟨zg9.toArray⟩:=⟨_,rfl⟩;have hlt:=zyx D.now;obtain⟨nt,hnt⟩:∃ nt:List UInt8,nt=za7 D.now:=⟨_,rfl⟩;rw[<-hnt]at HNW HRF hlt;have HWQ:=H_ (show wt=⟨#[119,104,97,116]⟩ from hwt);clear hv hlv hcase hnt;have⟨c_KD_0,c_KD_1,c_KD_2,c_KD_3⟩:=KD.o.c4;go_wp2_with fail
   clear c_KD_0 c_KD_1 c_KD_2 c_KD_3;refine(zlt _ _ _ _ _ _ D [32] _ rfl _ (HE.o.below HB.o) (HN.o.below HB.o) OD.o (by omega) hs (by simp)).mono ?_;rintro e w9 ⟨d0,d1,d2,d3,S_,rfl,hok,o_,h_⟩;have hs9:=h_.size;replace OD:=H_ (OD.o.below h_ (by omega));replace KD:=H_ (KD.o.below h_ (by omega));replace OX:=H_ (OX.o.below h_ (by omega));replace KX:=H_ (KX.o.below h_ (by omega));replace HB:=HB.tr h_ (by omega);rw[HWT.o]at o_ hok;obtain rfl:wt=S_:=hwt.trans hok.symm;have OZ:=H_ o_;clear o_ hok hwt;clear h_;obtain⟨z0,z1,z2,z3,z4,z5,z6,z7,rfl,rfl,rfl,rfl,_⟩:=OZ.o.at.shapes;have⟨gz,hg_gz⟩:=ex_ w9.heap.size;have⟨hgl_gz,hlt_KD⟩:w9.heap.size<=gz/\gd<w9:=by omega
   have⟨c_KD_0,c_KD_1,c_KD_2,c_KD_3⟩:=KD.o.c4;go_wp2_with fail
   have⟨w10,hw_⟩:=xa_ w9 #[(.slice z0 D.first z1),(.slice z2 D.goal z3),(.slice z4 D.made z5),(.slice z6 D.now z7)] 31;obtain⟨h_,K_,hs10⟩:=zja hw_;simp only[<-hw_];clear hw_;replace OD:=H_ (OD.o.below h_ (by omega));replace KD:=H_ (KD.o.below h_ (by omega));replace OX:=H_ (OX.o.below h_ (by omega));replace KX:=H_ (KX.o.below h_ (by omega));replace OZ:=H_ (OZ.o.below h_ (by omega));replace HB:=HB.tr h_ (by omega);have KZ:=H_ K_;clear h_ K_;clear c_KD_0 c_KD_1 c_KD_2 c_KD_3;rw[<-hg_gz]at KZ;have hgu_gz:gz<w10:=by omega
   have HG_gz:=H_ hg_gz;simp only[<-HG_gz.o];clear hg_gz
   skip
   refine(zlt _ _ _ _ _ _ D [110,111,119] _ rfl _ (HE.o.below HB.o) (HN.o.below HB.o) OD.o (by omega) hs (by simp)).mono ?_;rintro e w11 ⟨d0,d1,d2,d3,S_,rfl,hok,o_,h_⟩;have hs11:=h_.size;replace OD:=H_ (OD.o.below h_ (by omega));replace KD:=H_ (KD.o.below h_ (by omega));replace OX:=H_ (OX.o.below h_ (by omega));replace KX:=H_ (KX.o.below h_ (by omega));replace OZ:=H_ (OZ.o.below h_ (by omega));replace KZ:=H_ (KZ.o.below h_ (by omega));replace HB:=HB.tr h_ (by omega);rw[HNW.o]at o_ hok;subst hok;have ON:=H_ o_;clear o_;clear h_;obtain⟨n0,n1,n2,n3,n4,n5,n6,n7,rfl,rfl,rfl,rfl,_⟩:=ON.o.at.shapes;have⟨gn,hg_gn⟩:=ex_ w11.heap.size;have hgl_gn:w11.heap.size<=gn:=by omega
   go_wp2_with fail
   have⟨w12,hw_⟩:=xa_ w11 #[(.slice n0 D.first n1),(.slice n2 D.goal n3),(.slice n4 D.made n5),(.slice n6 D.now n7)] 31;obtain⟨h_,K_,hs12⟩:=zja hw_;simp only[<-hw_];clear hw_;replace OD:=H_ (OD.o.below h_ (by omega));replace KD:=H_ (KD.o.below h_ (by omega));replace OX:=H_ (OX.o.below h_ (by omega));replace KX:=H_ (KX.o.below h_ (by omega));replace OZ:=H_ (OZ.o.below h_ (by omega));replace KZ:=H_ (KZ.o.below h_ (by omega));replace ON:=H_ (ON.o.below h_ (by omega));replace HB:=HB.tr h_ (by omega);have KN:=H_ K_;clear h_ K_;rw[<-hg_gn]at KN;have hgu_gn:gn<w12:=by omega
   have HG_gn:=H_ hg_gn;simp only[<-HG_gn.o];clear hg_gn
   skip
   refine(z0f nt _ rfl _ ((HE.o.below HB.o).map) (by omega)).mono ?_;rintro e w13 ⟨ve,be,rfl,hbe,o_,h_⟩;have hs13:=h_.size;replace OD:=H_ (OD.o.below h_ (by omega));replace KD:=H_ (KD.o.below h_ (by omega));replace OX:=H_ (OX.o.below h_ (by omega));replace KX:=H_ (KX.o.below h_ (by omega));replace OZ:=H_ (OZ.o.below h_ (by omega));replace KZ:=H_ (KZ.o.below h_ (by omega));replace ON:=H_ (ON.o.below h_ (by omega));replace KN:=H_ (KN.o.below h_ (by omega));replace HB:=HB.tr h_ (by omega);rw[HRF.o]at o_ hbe;have hbt:be=true:=hbe;subst hbt;have OE:Q_ (SlI 0 w13 w13 ve D.now):=H_ (γ.sl (show γ _ _ _ _ _ D.now from o_) |>.wide (aw_ _) (le_ _));clear o_ hbe;clear h_;obtain⟨ea,ec,rfl,_,_⟩:=OE.o.open;have⟨c_KX_0,c_KX_1,c_KX_2,c_KX_3⟩:=KX.o.c4;go_wp2_with fail
   clear c_KX_0 c_KX_1 c_KX_2 c_KX_3;refine(zg5 _ _ _ _ _ _ R _ (HE.o.below HB.o) OX.o.at (by omega) hRs).mono ?_;rintro e w14 ⟨rfl,h_⟩;have hs14:=h_.size;replace OD:=H_ (OD.o.below h_ (by omega));replace KD:=H_ (KD.o.below h_ (by omega));replace OX:=H_ (OX.o.below h_ (by omega));replace KX:=H_ (KX.o.below h_ (by omega));replace OZ:=H_ (OZ.o.below h_ (by omega));replace KZ:=H_ (KZ.o.below h_ (by omega));replace ON:=H_ (ON.o.below h_ (by omega));replace KN:=H_ (KN.o.below h_ (by omega));replace OE:=H_ (OE.o.below h_ (by omega));replace HB:=HB.tr h_ (by omega);rw[HVR.o];clear h_;rcases HCS.o with hT|⟨hT,rfl⟩
   ·skip
    (have⟨c_KZ_0,c_KZ_1,c_KZ_2,c_KZ_3⟩:=KZ.o.c4;have⟨c_KD_0,c_KD_1,c_KD_2,c_KD_3⟩:=KD.o.c4;go_wp2_with fail);clear c_KZ_0 c_KZ_1 c_KZ_2 c_KZ_3 c_KD_0 c_KD_1 c_KD_2 c_KD_3;refine(zkm _ _ _ _ _ _ _ _ _ _ _ _ D _ OZ.o.at OD.o (by omega) (by omega) hs).mono ?_;rintro e w15 ⟨rfl,h_⟩;have hs15:=h_.size;replace OD:=H_ (OD.o.below h_ (by omega));replace KD:=H_ (KD.o.below h_ (by omega));replace OX:=H_ (OX.o.below h_ (by omega));replace KX:=H_ (KX.o.below h_ (by omega));replace OZ:=H_ (OZ.o.below h_ (by omega));replace KZ:=H_ (KZ.o.below h_ (by omega));replace ON:=H_ (ON.o.below h_ (by omega));replace KN:=H_ (KN.o.below h_ (by omega));replace OE:=H_ (OE.o.below h_ (by omega));replace HB:=HB.tr h_ (by omega);clear h_;have hwq:wt.toList=[119,104,97,116]:=by rw[HWQ.o];first | rfl | simp | decide
    (have⟨c_KD_0,c_KD_1,c_KD_2,c_KD_3⟩:=KD.o.c4;go_wp2_with fail);clear c_KD_0 c_KD_1 c_KD_2 c_KD_3;refine(zf3 _ _ _ _ _ _ D.now _ OE.o OD.o.now (J_ (Dsk.now_le _) hs)).mono ?_;rintro e w16 ⟨rfl,h_⟩;have hs16:=h_.size;replace OD:=H_ (OD.o.below h_ (by omega));replace KD:=H_ (KD.o.below h_ (by omega));replace OX:=H_ (OX.o.below h_ (by omega));replace KX:=H_ (KX.o.below h_ (by omega));replace OZ:=H_ (OZ.o.below h_ (by omega));replace KZ:=H_ (KZ.o.below h_ (by omega));replace ON:=H_ (ON.o.below h_ (by omega));replace KN:=H_ (KN.o.below h_ (by omega));replace OE:=H_ (OE.o.below h_ (by omega));replace HB:=HB.tr h_ (by omega);clear h_;go_wp2;go_ret;exact⟨rfl,HB.o⟩
   ·skip
    (have⟨c_KX_0,c_KX_1,c_KX_2,c_KX_3⟩:=KX.o.c4;have⟨c_KD_0,c_KD_1,c_KD_2,c_KD_3⟩:=KD.o.c4;go_wp2_with fail);clear c_KX_0 c_KX_1 c_KX_2 c_KX_3 c_KD_0 c_KD_1 c_KD_2 c_KD_3;refine(zkm _ _ _ _ _ _ _ _ _ _ _ _ R _ OX.o.at OD.o (by omega) (by omega) hs).mono ?_;rintro e w15 ⟨rfl,h_⟩;have hs15:=h_.size;replace OD:=H_ (OD.o.below h_ (by omega));replace KD:=H_ (KD.o.below h_ (by omega));replace OX:=H_ (OX.o.below h_ (by omega));replace KX:=H_ (KX.o.below h_ (by omega));replace OZ:=H_ (OZ.o.below h_ (by omega));replace KZ:=H_ (KZ.o.below h_ (by omega));replace ON:=H_ (ON.o.below h_ (by omega));replace KN:=H_ (KN.o.below h_ (by omega));replace OE:=H_ (OE.o.below h_ (by omega));replace HB:=HB.tr h_ (by omega);clear h_;have⟨c_KZ_0,c_KZ_1,c_KZ_2,c_KZ_3⟩:=KZ.o.c4;have⟨c_KD_0,c_KD_1,c_KD_2,c_KD_3⟩:=KD.o.c4;go_wp2_with fail
    clear c_KZ_0 c_KZ_1 c_KZ_2 c_KZ_3 c_KD_0 c_KD_1 c_KD_2 c_KD_3;refine(zkm _ _ _ _ _ _ _ _ _ _ _ _ R _ OZ.o.at OD.o (by omega) (by omega) hs).mono ?_;rintro e w16 ⟨rfl,h_⟩;have hs16:=h_.size;replace OD:=H_ (OD.o.below h_ (by omega));replace KD:=H_ (KD.o.below h_ (by omega));replace OX:=H_ (OX.o.below h_ (by omega));replace KX:=H_ (KX.o.below h_ (by omega));replace OZ:=H_ (OZ.o.below h_ (by omega));replace KZ:=H_ (KZ.o.below h_ (by omega));replace ON:=H_ (ON.o.below h_ (by omega));replace KN:=H_ (KN.o.below h_ (by omega));replace OE:=H_ (OE.o.below h_ (by omega));replace HB:=HB.tr h_ (by omega);clear h_;have hwq:wt.toList=[119,104,97,116]:=by rw[HWQ.o];first | rfl | simp | decide
    (have⟨c_KD_0,c_KD_1,c_KD_2,c_KD_3⟩:=KD.o.c4;go_wp2_with fail);clear c_KD_0 c_KD_1 c_KD_2 c_KD_3;refine(zf3 _ _ _ _ _ _ R.now _ OE.o OD.o.now (J_ (Dsk.now_le _) hs)).mono ?_;rintro e w17 ⟨rfl,h_⟩;have hs17:=h_.size;replace OD:=H_ (OD.o.below h_ (by omega));replace KD:=H_ (KD.o.below h_ (by omega));replace OX:=H_ (OX.o.below h_ (by omega));replace KX:=H_ (KX.o.below h_ (by omega));replace OZ:=H_ (OZ.o.below h_ (by omega));replace KZ:=H_ (KZ.o.below h_ (by omega));replace ON:=H_ (ON.o.below h_ (by omega));replace KN:=H_ (KN.o.below h_ (by omega));replace OE:=H_ (OE.o.below h_ (by omega));replace HB:=HB.tr h_ (by omega);clear h_;go_wp2;go_ret;exact⟨rfl,HB.o⟩
  ·have hv2:Θ D=false:=by simpa using hv
   rw[hv2];have hz:(Dsk.none,([]:List UInt8))=(R,t):=by rw[<-HR.o];unfold za3;rw[hv2];rfl
   obtain rfl:Dsk.none=R:=congrArg Prod.fst hz
   have htk:T.toList=[]:=by
    have h:t=[]:=(congrArg Prod.snd hz).symm;rw[HT.o,h];first | rfl | simp | decide
   clear hz hv hv2;have⟨c_KX_0,c_KX_1,c_KX_2,c_KX_3⟩:=KX.o.c4;go_wp2_with fail
   clear c_KX_0 c_KX_1 c_KX_2 c_KX_3;refine(zxl _ _ _ _ _ _ _ OX.o.at (by omega)).mono ?_;rintro e w9 ⟨rfl,h_⟩;have hs9:=h_.size;replace OD:=H_ (OD.o.below h_ (by omega));replace KD:=H_ (KD.o.below h_ (by omega));replace OX:=H_ (OX.o.below h_ (by omega));replace KX:=H_ (KX.o.below h_ (by omega));replace HB:=HB.tr h_ (by omega);clear h_;go_wp2_with fail
   refine(ztr _).mono ?_;rintro e w_ ⟨rfl,rfl⟩;go_wp2;go_ret;exact⟨rfl,HB.o⟩
 ·go_enter func4,ntmps4
  go_wp2;go_ret;exact⟨rfl,B_ _ _⟩
end Go.Proofs.YtfnnhimopokpnaaGreatDoor
