/- Lemmas for this seat; no condition. -/
import Derived.Test.YtfnnhimopokpnaaGreatDoorHCAP
namespace Go.Proofs.YtfnnhimopokpnaaGreatDoor
open Go.RowKit Proofs.Tryz
set_option maxRecDepth 100000
set_option maxHeartbeats 0
set_option linter.all false
variable {q k n m:Nat}
section
def FtO(o:Option (List Int))(w:World)(r:Value)(w':World):Prop:=((∃ t v,o=some t/\r=.tuple #[v,.bool true]/\γ w w' 3 w' v t/\t.length<=64)\/(o=none/\r=.tuple #[(),.bool false]))/\Below w w w'
theorem zvr {α:Nat}(ha:α<4)(h:q.testBit α=true)(h0:∀ j,j<α->q.testBit j=false):lowBit q=some α:=by
 unfold lowBit;rcases (show α=0\/α=1\/α=2\/α=3 by omega) with rfl|rfl|rfl|rfl
 ·simp[List.range,List.range.loop,List.find?,h]
 ·simp[List.range,List.range.loop,List.find?,h,h0 0 (by omega)]
 ·simp[List.range,List.range.loop,List.find?,h,h0 0 (by omega),h0 1 (by omega)]
 ·simp[List.range,List.range.loop,List.find?,h,h0 0 (by omega),h0 1 (by omega),h0 2 (by omega)]
theorem zu2(h0:∀ j,j<4->q.testBit j=false):lowBit q=none:=by
 unfold lowBit;simp[List.range,List.range.loop,List.find?,h0 0 (by omega),h0 1 (by omega),h0 2 (by omega),h0 3 (by omega)]
theorem zva {a b:Au} {l:List Way2}(hk:k<l.length){p:Nat × Nat}{t:List Int}(he:l[k]=(p,t)){α:Nat}(hl:lowBit (apartP a b p)=some α):hitL a b (l.drop k)=some (t++[(α:Int)]):=by
 rw[y_ hk,hitL,hitW,he,hl];rfl
theorem zw7 {a b:Au} {l:List Way2}(hk:k<l.length){p:Nat × Nat}{t:List Int}(he:l[k]=(p,t))(hl:lowBit (apartP a b p)=none):hitL a b (l.drop k)=hitL a b (l.drop (k+1)):=by
 rw[y_ hk,hitL,hitW,he,hl];rfl
theorem zsg(a b:Au)(w:Way2):∀ (l:List Way2) (s:List (Nat × Nat) × List Way2),goL a b s (l++[w])=goW a b w (goL a b s l) 12
 | [],s=>by simp only[ad_,goL]
 | x :: l,s=>by
  rw[aj_];simp only[goL];exact zsg a b w l _
theorem zqc {a b:Au} {l:List Way2}(hk:k<l.length)(s:List (Nat × Nat) × List Way2):goL a b s (l.take (k+1))=goW a b l[k] (goL a b s (l.take k)) 12:=by
 rw[F_ hk,zsg]
theorem zq7 {a b:Au}(hn:n<21){seen:List (Nat × Nat)}{l:List Way2}{t:List Int}(h:hitL a b l=some t):levGo a b (21-n) seen l=some t:=by
 rw[show 21-n=(21-(n+1))+1 by omega,levGo,h]
theorem zqt {a b:Au}(hn:n<21){seen:List (Nat × Nat)}{l:List Way2}(h:hitL a b l=none){q:List (Nat × Nat)}{f:List Way2}(hq:(q,f)=goL a b (seen,[]) l):levGo a b (21-n) seen l=levGo a b (21-(n+1)) q f:=by
 rw[show 21-n=(21-(n+1))+1 by omega,levGo,h,<-hq]
theorem zqr {a b:Au} {w:Way2} {s:List (Nat × Nat) × List Way2} {q:List (Nat × Nat)} {f:List Way2}(hs:(q,f)=goW a b w s m)(h:nextP a b w.1 m∈q):(q,f)=goW a b w s (m+1):=by
 rw[goW,<-hs,x_ h]
theorem zsx {a b:Au} {w:Way2} {s:List (Nat × Nat) × List Way2} {q:List (Nat × Nat)} {f:List Way2}(hs:(q,f)=goW a b w s m)(h:nextP a b w.1 m ∉ q):(q++[nextP a b w.1 m],f++[(nextP a b w.1 m,w.2++[((m/3:Nat):Int),16+((m%3:Nat):Int)])])=goW a b w s (m+1):=by
 rw[goW,<-hs,m_ h]
theorem zvb(lo hi:Nat)(v1 v2 v3 v4:Value)(a b:Au)(w:World)(h:TgS lo hi w v1 v2 v3 v4 a b)(hh:hi<=w)(ha:zcc a)(hb:zcc b):
    Calls prog 139 #[.agg #[(1:Int),(1:Int)],.func (.func 140) #[.agg #[v1,v2,v3,v4]] #[],.func (.func 141) #[.agg #[v1,v2,v3,v4]] #[]] w (ε (FtO (levGo a b 21 [(1,1)] [((1,1),[])]) w)):=by
  have⟨w0,hw0⟩:=xa_ w #[(1:Int),(1:Int)] 151;have⟨w1,hw1⟩:=xa_ w0 #[(1:Int),(1:Int),()] 193;have⟨w2,hw2⟩:=ex_ (w1.alloc (.map #[] 0));have b0:Below w w w0:=by rw[hw0];exact η _ _
  have b1:Below w0 w0 w1:=by rw[hw1];exact η _ _
  have b2:Below w1 w1 w2:=by rw[hw2];exact η _ _
  have k0:Blk w (.cells #[(1:Int),(1:Int)] 151) w0:=by rw[hw0];exact κ w _
  have s0:w0=w.heap.size+1:=by rw[hw0];simp
  have s1:w1=w.heap.size+2:=by rw[hw1];simp;omega
  have s2:w2=w.heap.size+3:=by rw[hw2];simp;omega
  have k1:Own 3 (w+1) (w+2) 193 w1 (.slice (q_ (w+1) 0) 1 1) 1 (wys [((1,1),.slice none 0 0)]):=by
    have:=ς 3 193 w0 (wys [((1,1),.slice none 0 0)]) 1 (by omega) rfl;rw[s0]at this;rw[hw1];exact this
  have k2:PM w2 (w+2) []:=by rw[<-s1,hw2];exact PM.made w1
  obtain⟨w3,hr3,hp3,hg3⟩:=k2.put (p:=(1,1)) ⟨by decide,by decide⟩ (by simp);have hO3:=zex hg3;have s3:=hg3.size;have HR3:=H_ hr3
  have HI : Q_ (LvI a b w w3 (.slice (some ⟨w.heap.size + 1, 0, none⟩) 1 1) (2 * 0) [((1, 1), .slice none 0 0)] [((1, 1), [])] [(1, 1)]) := H_ ⟨⟨((k1.below b2 (by omega)).outside hO3 (by omega)).wide2 (by omega) (by omega), rfl, λi h1 h2 => by
      (obtain rfl:i=0:=by simp at h1;omega);exact⟨rfl,zaa _ _ _ _ _,by simp⟩⟩,hp3,δ ((b0.trans (b1.mono (by omega))).trans (b2.mono (by omega))) hO3 (by omega) (by omega),⟨by simp,by simp,λx hx=>by
      simp only[k_]at hx;subst hx;exact⟨RchP.start a b,by decide,by decide⟩,by simp⟩⟩
  have HT:=H_ h;have HAO:=H_ ha;have HBO:=H_ hb
  have HK:=H_ (show w2.cell? (p_ w 0)=some (.int .i64 1)/\w2.cell? (p_ w 1)=some (.int .i64 1) from by
    have hk:=(k0.below b1 (by omega)).below b2 (by omega);exact⟨hk.cell 0,hk.cell 1⟩)
  clear h ha hb b0 b1 b2 k0 k1 k2 hp3 hg3 hO3 hr3
  go_enter func139,ntmps139
  go_upto_region 2 with fail
  simp only[<-hw0,<-hw1];have hmk:(Instr.makeMap 191 none).run prog w1=.ok (.map (some (w.heap.size+2))) w2:=by rw[<-s1,hw2];rfl
  have k2a:=HK.o.1;have k2b:=HK.o.2;have hr3:(Instr.mapUpdate 191 (.map (some (w.heap.size+2))) (.agg #[(1:Int),(1:Int)]) (.bool true)).run prog w2=.ok () w3:=HR3.o;clear hw0 hw1 hw2 HR3;go_wp2;clear hmk k2a k2b hr3 HK;go_loopw [8,10] (λlv i wr=>∃ (n:Nat) (ws:List ((Nat × Nat) × Value)) (l:List Way2) (qs:List (Nat × Nat)),n<=21/\i=.int .i64 n/\Q_ (LvI a b w wr lv (2*n) ws l qs)/\Q_ (levGo a b 21 [(1,1)] [((1,1),[])]=levGo a b (21-n) qs l)) (λ_ i _=>21-(intOf i).toNat)
  case atStart=>exact⟨0,_,_,_,by omega,rfl,HI,H_ rfl⟩
  case round=>
    rename World=>wr
    clear HI;obtain⟨n,ws,l,qs,hn,rfl,HI,HLG⟩:=hrel;have HLL:=H_ HI.o.ways.len;obtain⟨la,lc,rfl⟩:=θ HI.o.ways.own;obtain⟨hw1,hq1⟩:=HI.o.seen.few;by_cases hlt:n<21
    · have hdn:decide ((n:Int)<=20)=true:=by simp;omega
      go_wp2;go_loopw [33] (λi wx=>∃ k:Nat,k<=ws.length/\i=.int .i64 k/\Q_ (Below wr wr wx)/\Q_ (hitL a b l=hitL a b (l.drop k))) (λi _=>ws.length-(intOf i).toNat)
      case atStart=>exact⟨0,by omega,rfl,H_ (B_ _ _),H_ rfl⟩
      case round=>
        rename World=>wx
        obtain⟨k,hk,rfl,HX,HHL⟩:=hrel;by_cases hltk:k<ws.length
        · obtain⟨g4,rfl,_,_,hg4,c40,c41,c42⟩:=(HI.o.ways.below HX.o (le_ _)).get k hltk
          (have HRW:=H_ (HI.o.seen.rch _ (u_ hltk));have hkl:k<l.length:=by rw[<-HLL.o];exact hltk);(obtain⟨ht0,ht1,ht2⟩:=HI.o.ways.tr k hltk hkl;have⟨t,ht_⟩:=ex_ (l[k].2);have HLK:=H_ (show l[k]=(ws[k].1,t) from Prod.ext ht0.symm ht_.symm);have HKL:=H_ hkl;rw[<-ht_]at ht1 ht2;clear ht0 ht_;have HTR:=H_ (a_ ht1 ht2);clear ht1 ht2;generalize ws[k]=q at c40 c41 c42 HRW HTR HLK;obtain⟨⟨x,y⟩,s⟩:=q;simp only at c40 c41 c42 HRW HTR HLK;obtain⟨sa,sc,rfl⟩:=θ HTR.o.1;have hx:x<1048576:=by have:=HRW.o.2.1;omega);(have hy:y<1048576:=by have:=HRW.o.2.2;omega);(have ht1:t.length<=42:=by have:=HTR.o.2;omega);(have⟨w5,hw5⟩:=xa_ wx #[.int .i64 (x:Nat),.int .i64 (y:Nat),.slice sa t sc] 193;obtain⟨hb5,KP_,hs5⟩:=Μ hw5;have hzr:=HI.o.below.size;have hzx:=HX.o.size;have HT5:=H_ (((HT.o.below HI.o.below hh).below HX.o (by omega)).below hb5 (by omega));have HB5:=HX.tr hb5 hzx;have KP:=H_ KP_;have⟨c0,c1⟩:=KP.o.c2;rw[hw5]at c0 c1;have⟨q,hq⟩:=ex_ (apartP a b (x,y));have HQP:=H_ hq)
          have hq16:q<16:=by
            rw[hq];exact Nat.xor_lt_two_pow (n:=4) (HAO.o.endsLt x) (HBO.o.endsLt y)
          clear hq hb5 KP_;go_wp2_with fail
          simp only[<-hw5];refine(zpp _ _ _ _ _ _ _ _ x y w5 HT5.o (by omega) HAO.o HBO.o hx hy).mono ?_;rintro e8 w8 ⟨rfl,hb8⟩;rw[<-HQP.o];have hz8:=hb8.size;have HB8:=HB5.tr hb8 (by omega);have KP8:=H_ (KP.o.below hb8 (by omega));clear hw5 c0 c1 c40 c41 c42 hb8 HT5 KP;go_wp2;go_loopw [41] (λi wy=>∃ α:Nat,α<=4/\i=.int .i64 α/\Q_ (Below w8 w8 wy)/\Q_ (∀ j,j<α->q.testBit j=false)) (λi _=>4-(intOf i).toNat)
          case atStart=>exact⟨0,by omega,rfl,H_ (B_ _ _),H_ (λj hj=>by omega)⟩
          case round=>
            rename World=>wy
            obtain⟨α,hα,rfl,HY,HJ⟩:=hrel;have hzy:=HY.o.size;by_cases hlta:α<4
            · have hda:decide ((α:Int)<4)=true:=by simp;omega
              go_wp2_with fail
              refine(zf9 q α hq16 hlta wy).mono ?_;rintro e9 _ ⟨rfl,rfl⟩;rw[zo6];cases hbit:q.testBit α
              · have HJN:=H_ (show ∀ j,j<α+1->q.testBit j=false from λj hj=>by
                  by_cases hja:j=α
                  · rw[hja];exact hbit
                  · exact HJ.o j (by omega))
                clear hbit;go_wp2;go_roundw
                (case rel=>exact⟨α+1,by omega,by go_num,HY,HJN⟩);case measure=>simp[intOf];omega
              · have kp:=KP8.o.below HY.o KP8.o.lt
                (have c2:=kp.cell 2;have HBW:=HB8.tr HY.o (by omega))
                have HRET:=H_ (show levGo a b 21 [(1,1)] [((1,1),[])]=some (t++[(α:Int)]) from by
                  rw[HLG.o];exact zq7 hlt (HHL.o.trans (zva HKL.o HLK.o (by rw[<-HQP.o];exact zvr hlta hbit HJ.o))))
                clear hbit kp;go_wp2_with fail
                refine(zdp _ _ _ t wy (HTR.o.1.sl.below HBW.o (le_ _)) (by omega)).mono ?_;rintro e10 w10 ⟨v10,rfl,hb10,ho10⟩;have hz10:=hb10.size;have HBX:=HBW.tr hb10 (by omega);have HO10:=H_ ho10;obtain⟨ya,yc,rfl⟩:=θ ho10;clear hb10 ho10 c2;go_wp2_with (at_builtin;go_loud (refine zah w10 rfl _ _ 22 rfl 3 (0:Int) 1 8 underlying22 τ rfl (by decide) (by decide) rfl HO10.o 1 (ints [(α:Int)]) rfl rfl (Β _) rfl ?c1 ?c2 ?_))
                case c1=>omega
                case c2=>omega
                intro v11 w11 ho11 hout11 _;obtain⟨yb,ybc,rfl⟩:=θ ho11;have HOF:=H_ (show γ w w11 3 w11 (.slice yb (t.length+1) ybc) (t++[(α:Int)]) from (γ.len (xs:=t++[(α:Int)]) (by rw[zae];exact ho11) (by simp)).lower (by omega) (le_ _));have HBF:=H_ (HI.o.below.trans ((δ HBX.o hout11 (by omega) (by omega)).mono hzr));clear ho11 hout11;go_wp2;refine d_ (v:=.tuple #[.slice yb (t.length+1) ybc,.bool true]) (by simp[results,results139,go_sem]) rfl ?_;exact ε.mk _ rfl ⟨.inl ⟨_,_,HRET.o,rfl,HOF.o,by simp;omega⟩,HBF.o⟩
            · obtain rfl:α=4:=by omega
              (have HXF:=HB8.tr HY.o (by omega);have HHN:=H_ (HHL.o.trans (zw7 HKL.o HLK.o (by rw[<-HQP.o];exact zu2 HJ.o)));clear HX;go_wp2;go_roundw);(case rel=>exact⟨k+1,by omega,by go_num,HXF,HHN⟩);case measure=>simp[intOf];omega
        · obtain rfl:k=ws.length:=by omega
          (have HIS:=H_ (HI.o.go HX.o);have HHN:=H_ (show hitL a b l=none from by rw[HHL.o,az_ (by rw[HLL.o];exact le_ _)];rfl);have⟨wS,hwS⟩:=ex_ wx;rw[<-hwS]at HIS ⊢;clear hwS HI HX;have⟨qs0,hq0⟩:=ex_ qs;have HQ0:=H_ hq0;rw[<-hq0]at HLG;clear hq0;go_wp2;go_loopw [15,57] (λv i wx=>∃ (k:Nat) (fs:List ((Nat × Nat) × Value)) (fl:List Way2) (qs:List (Nat × Nat)),k<=ws.length/\i=.int .i64 k/\Q_ (FuI a b (w+2) wS wx v (2*n+2) fs fl qs)/\Q_ ((qs,fl)=goL a b (qs0,[]) (l.take k))) (λ_ i _=>ws.length-(intOf i).toNat));case atStart=>exact⟨0,[],[],qs,by omega,rfl,H_ ⟨WyL.nil _ _ _ _,HIS.o.map,β.refl _ _ _,HIS.o.seen.none⟩,H_ (by rw[HQ0.o];rfl)⟩
          case round=>
            rename World=>wx
            obtain⟨k,fs,fl,qs2,hk,rfl,HF,HGL⟩:=hrel;have hzx:=HF.o.o.size;obtain⟨fa,fc,rfl⟩:=θ HF.o.ways.own;by_cases hltk:k<ws.length
            · have HLW:=H_ (HF.o.seek HIS.o.ways HIS.o.map)
              (obtain⟨g4,rfl,_,_,hg4,c40,c41,c42⟩:=HLW.o.get k hltk;have HRW:=H_ (HIS.o.seen.rch _ (u_ hltk));have hkl:k<l.length:=by rw[<-HLL.o];exact hltk);(obtain⟨ht0,ht1,ht2⟩:=HIS.o.ways.tr k hltk hkl;have⟨t,ht_⟩:=ex_ (l[k].2);have HLK:=H_ (show l[k]=(ws[k].1,t) from Prod.ext ht0.symm ht_.symm);have HKL:=H_ hkl;rw[<-ht_]at ht1 ht2;clear ht0 ht_;have HTR:=H_ (a_ ht1 ht2);clear ht1 ht2;generalize ws[k]=q at c40 c41 c42 HRW HTR HLK;obtain⟨⟨x,y⟩,s⟩:=q;simp only at c40 c41 c42 HRW HTR HLK;obtain⟨sa,sc,rfl⟩:=θ HTR.o.1;have hx:x<1048576:=by have:=HRW.o.2.1;omega);(have hy:y<1048576:=by have:=HRW.o.2.2;omega);(have ht1:t.length<=42:=by have:=HTR.o.2;omega);(have HW5:=H_ (HF.o.beside #[.int .i64 (x:Nat),.int .i64 (y:Nat),.slice sa t sc]);have⟨w5,hw5⟩:=xa_ wx #[.int .i64 (x:Nat),.int .i64 (y:Nat),.slice sa t sc] 193;have hs5:wx+1<=w5.heap.size:=by rw[hw5];simp);rw[<-hw5]at HW5;go_wp2;simp only[<-hw5];clear hw5 c40 c41 c42 HF;go_loopw [15,61] (λv i wy=>∃ (α:Nat) (fs:List ((Nat × Nat) × Value)) (fl:List Way2) (qs:List (Nat × Nat)),α<=4/\i=.int .i64 α/\Q_ (FwI a b (w+2) wS wx #[.int .i64 (x:Nat),.int .i64 (y:Nat),.slice sa t sc] wy v (2*n+2) fs fl qs)/\Q_ ((qs,fl)=goW a b ((x,y),t) (goL a b (qs0,[]) (l.take k)) (3*α))) (λ_ i _=>4-(intOf i).toNat)
              case atStart=>exact⟨0,_,_,_,by omega,rfl,HW5,HGL⟩
              case round=>
                rename World=>wy
                clear HW5;obtain⟨α,fs,fl,qs3,hα,rfl,HF,HGA⟩:=hrel;obtain⟨fa,fc,rfl⟩:=θ HF.o.fu.ways.own;by_cases hlta:α<4
                · have hda:decide ((α:Int)<4)=true:=by simp;omega
                  go_wp2;go_loopw [15,19] (λv i wz=>∃ (j:Nat) (fs:List ((Nat × Nat) × Value)) (fl:List Way2) (qs:List (Nat × Nat)),j<=3/\i=.int .i64 (16+(j:Int))/\Q_ (FwI a b (w+2) wS wx #[.int .i64 (x:Nat),.int .i64 (y:Nat),.slice sa t sc] wz v (2*n+2) fs fl qs)/\Q_ ((qs,fl)=goW a b ((x,y),t) (goL a b (qs0,[]) (l.take k)) (3*α+j))) (λ_ i _=>19-(intOf i).toNat)
                  case atStart=>exact⟨0,_,_,_,by omega,rfl,HF,HGA⟩
                  case round=>
                    rename World=>wz
                    clear HF;obtain⟨j,fs,fl,qs4,hj,rfl,HF,HGJ⟩:=hrel;obtain⟨fa,fc,rfl⟩:=θ HF.o.fu.ways.own;by_cases hltj:j<3
                    · have hdj:decide ((16:Int)+(j:Int)<=18)=true:=by simp;omega
                      (have⟨m,hm⟩:=ex_ (3*α+j);have hm12:m<12:=by omega);(have HM:=H_ hm;clear hm;have hzz:=HF.o.fu.o.size;have HTZ:=H_ ((HT.o.below HIS.o.below hh).outside HF.o.fu.o (.inl (by omega)));have HNX:Q_ (∀ w':World,Below wz wz w'->Calls prog 140 #[.agg #[v1,v2,v3,v4],.agg #[.int .i64 (x:Nat),.int .i64 (y:Nat)],.int .i64 (m:Nat)] w' λe w''=>e=.returned (.agg #[.int .i64 ((stepU a x m:Nat):Int),.int .i64 ((stepU b y m:Nat):Int)])/\Below w' w' w''):=H_ λw' hb'=>zmv lo hi v1 v2 v3 v4 a b x y m w' (HTZ.o.below hb' (by have:=HIS.o.below.size;omega)) (by have:=hb'.size;have:=HIS.o.below.size;omega) HAO.o HBO.o hx hy hm12)
                      have HMV:Q_ (∀ w':World,Calls prog 181 #[.int .i64 α,.int .i64 (16+(j:Int))] w' λe w''=>e=.returned (.int .i64 (m:Nat))/\w'=w''):=H_ λw'=>(zoj α (16+(j:Int)) w' hlta (by omega) (by omega)).mono (by
                        rintro e w'' ⟨rfl,h⟩;refine⟨?_,h⟩;have hm:=HM.o;rw[show 3*(α:Int)+(16+(j:Int))-16=(m:Nat) by omega])
                      (have hsm1:stepU a x m<1024:=HAO.o.step x hm12;have hsm2:stepU b y m<1024:=HBO.o.step y hm12;have hkl:=HF.o.blk.lt;go_upto_region 27 with fail);go_cut [20] (λpv wv=>zev wz ((stepU a x m:Nat):Int) ((stepU b y m:Nat):Int) pv wv)
                      case first=>
                        (have hbd:Below wz wz wz.drew:=z_ (B_ _ _);have hba:Below wz wz (wz.alloc (.cells #[(0:Int),(0:Int)] 151)).drew:=z_ (η wz _);have hmm:wz.drew.heap.size=wz.heap.size:=rfl;have hma:(wz.alloc (.cells #[(0:Int),(0:Int)] 151)).drew.heap.size=wz.heap.size+1:=ν _ _;obtain⟨t0,t1⟩:=HF.o.blk.drew.c2;have u0:(wz.alloc (.cells #[(0:Int),(0:Int)] 151)).drew.cell? (p_ wx 0)=_:=HF.o.blk.al.cell 0;have u1:(wz.alloc (.cells #[(0:Int),(0:Int)] 151)).drew.cell? (p_ wx 1)=_:=HF.o.blk.al.cell 1;have HA:=H_ hba;clear hba)
                        go_region_law (first
                          | (go_simp;go_at_call 181;refine(HMV.o _).mono ?_;rintro e0 _ ⟨rfl,rfl⟩)
                          | (go_simp;go_at_call 140;refine(HNX.o wz.drew hbd).mono ?_;rintro e1 w6 ⟨rfl,hb1_⟩;(have hb1:Below wz wz w6:=hbd.trans (hb1_.mono (le_ _)));(have hz1:=hb1.size);(have HB1:=H_ hb1);(have kz:=κ w6 (.cells #[(0:Int),(0:Int)] 151));(obtain⟨z0,z1⟩:=kz.c2);(obtain⟨z2,z3⟩:=kz.f2);clear hb1_ hb1 kz)
                          | (go_simp;go_at_call 140;refine(HNX.o ((wz.alloc (.cells #[(0:Int),(0:Int)] 151)).drew) HA.o).mono ?_;rintro e1 w6 ⟨rfl,hb1_⟩;(have hz1:=hb1_.size);(have kz:Blk wz (.cells #[(0:Int),(0:Int)] 151) w6:=(κ wz (.cells #[(0:Int),(0:Int)] 151)).drew.below hb1_ (by rw[hma];exact D_ _));(obtain⟨z0,z1⟩:=kz.c2);(obtain⟨z2,z3⟩:=kz.f2);(have HB2:=H_ (a_ kz (HA.o.trans (hb1_.mono (by omega)))));clear hb1_ kz))
                        all_goals (
                          go_wp2_with fail
                          go_meet
                          first
                            | exact zev.a HB1.o
                            | exact zev.b HB2.o.1 HB2.o.2)
                      case rest=>
                        rename World=>wc
                        obtain⟨gp,rfl,HG⟩:=hcut;have HFC:=H_ (HF.o.go HG.o.2.2);have hfit:zdq (stepU a x m,stepU b y m):=⟨by show stepU a x m<1048576;omega,by show stepU b y m<1048576;omega⟩;have hlk:(Instr.lookup 191 (.map (some (w.heap.size+2))) (.agg #[.int .i64 ((stepU a x m:Nat):Int),.int .i64 ((stepU b y m:Nat):Int)]) false).run prog wc=.ok (.bool (decide ((stepU a x m,stepU b y m)∈qs4))) wc:=HFC.o.fu.map.look hfit;have kp:=HG.o.2.1;obtain⟨c0,c1⟩:=kp.c2;have hgp2:=HG.o.1;have hgz:=HG.o.2.2.size;obtain⟨hf4,hq4⟩:=HFC.o.fu.seen.few;cases hmem:decide ((stepU a x m,stepU b y m)∈qs4)
                        · obtain⟨wq,hrq_,hpq,hgq⟩:=HFC.o.fu.map.put hfit (by omega)
                          (have hrq:(Instr.mapUpdate 191 (.map (some (w.heap.size+2))) (.agg #[.int .i64 ((stepU a x m:Nat):Int),.int .i64 ((stepU b y m:Nat):Int)]) (.bool true)).run prog wc=.ok () wq:=hrq_;have hNM:(stepU a x m,stepU b y m) ∉ qs4:=by simpa using hmem);(have HNM:=H_ hNM)
                          have HGN:=H_ (show (qs4++[(stepU a x m,stepU b y m)],fl++[((stepU a x m,stepU b y m),t++[(α:Int),16+(j:Int)])])=goW a b ((x,y),t) (goL a b (qs0,[]) (l.take k)) (3*α+(j+1)) from by
                            have hg:=HGJ.o;have hm3:=HM.o;rw[<-hm3]at hg;have h:=zsx hg hNM;rw[show m/3=α by omega,show m%3=j by omega,show m+1=3*α+(j+1) by omega]at h;exact h)
                          (have HPQ:=H_ (a_ hpq hgq);have hOq:=zex hgq;have hsq:=hgq.size;have KQ:=H_ (kp.past HFC.o.fu.map hOq);have K17:=H_ (HFC.o.blk.past HFC.o.fu.map hOq);have HTQ:=H_ (zmd HTR.o.1 HIS.o.map (HFC.o.fu.o.trans hOq));have HFQ:=H_ (HFC.o.fu.turn hgq);have hown17:=HFC.o.ne;have HNE:=H_ hown17;have hfz:∀ u,(Value.slice fa fs fc).ownBlock=some u->u<wz.heap.size:=λu hu=>(HF.o.fu.ways.own.lt u hu).2);(have HFZ:=H_ hfz;have hSS:=HIS.o.below.size;have hkp:=KQ.o.lt;have hk17:=K17.o.lt;have HRN:=H_ (HRW.o.1.next hm12);have htn:=HTR.o.2;rw[hmem]at hlk;clear hmem hNM hpq hgq hrq_ kp HG HF hOq hown17 hfz;have HS:Q_ (∀ w':World,Below wq wq w'->w'.cell? (p_ gp 0)=some (.int .i64 ((stepU a x m:Nat):Int))/\w'.cell? (p_ gp 1)=some (.int .i64 ((stepU b y m:Nat):Int))/\w'.cell? (p_ wx 2)=some (.slice sa t sc)):=H_ λw' hb'=>⟨(KQ.o.below hb' KQ.o.lt).cell 0,(KQ.o.below hb' KQ.o.lt).cell 1,(K17.o.below hb' K17.o.lt).cell 2⟩);(obtain⟨d0,d1,d2⟩:=HS.o wq (B_ _ _);obtain⟨e0,e1,e2⟩:=HS.o wq.drew (z_ (B_ _ _));have hqd:wq.drew.heap.size=wq.heap.size:=rfl;have hql:(wq.alloc (.cells #[.int .i64 (α:Nat),.int .i64 (16+(j:Int))] 3)).drew.heap.size=wq.heap.size+1:=ν _ _;obtain⟨g0,g1,g2⟩:=HS.o (wq.alloc (.cells #[.int .i64 (α:Nat),.int .i64 (16+(j:Int))] 3)).drew (z_ (η wq _));have HTQD:=H_ (HTQ.o.sl.below (z_ (B_ wq wq)) (by omega));have HTQL:=H_ (HTQ.o.sl.below (z_ (η wq (.cells #[.int .i64 (α:Nat),.int .i64 (16+(j:Int))] 3))) (by omega));have HLQ:Q_ (Sl 1 wq (wq+1) (wq.alloc (.cells #[.int .i64 (α:Nat),.int .i64 (16+(j:Int))] 3)).drew (.slice (q_ wq 0) 2 2) 2 [.int .i64 (α:Nat),.int .i64 (16+(j:Int))]):=H_ (zco (ς 1 3 wq [.int .i64 (α:Nat),.int .i64 (16+(j:Int))] 2 (by omega) rfl).sl (z_ (B_ (wq+1) _)) (le_ _)))
                          have HS12:Q_ (∀ wA wB:World,Below wq wq wA->wA.grownBy wB (Value.slice fa fs fc).ownBlock->wB.cell? (p_ gp 0)=some (.int .i64 ((stepU a x m:Nat):Int))/\wB.cell? (p_ gp 1)=some (.int .i64 ((stepU b y m:Nat):Int))/\wB.cell? (p_ wx 2)=some (.slice sa t sc)):=H_ λwA wB hA hB=>by
                            (obtain⟨r0,r1,r2⟩:=HS.o wA hA;have hAz:=hA.size;have n1:some gp≠(Value.slice fa fs fc).ownBlock:=λe=>by have:=HFZ.o gp e.symm;omega);(have n2:some wx.heap.size≠(Value.slice fa fs fc).ownBlock:=λe=>HNE.o e.symm);exact⟨(hB.cell_far (p_ gp 0) (by show gp<_;omega) n1).trans r0,(hB.cell_far (p_ gp 1) (by show gp<_;omega) n1).trans r1,(hB.cell_far (p_ wx 2) (by show wx.heap.size<_;omega) n2).trans r2⟩
                          go_upto_region 30 with fail
                          go_region_held3 (λw'=>w'.cell? (p_ gp 0)=some (.int .i64 ((stepU a x m:Nat):Int))/\w'.cell? (p_ gp 1)=some (.int .i64 ((stepU b y m:Nat):Int))/\w'.cell? (p_ wx 2)=some (.slice sa t sc)) (first | with_reducible assumption | go_keep) (first
                            | (go_at_call 76;refine(zdp _ _ _ t wq.drew HTQD.o (by omega)).mono ?_;rintro e10 w10 ⟨v10,rfl,hb10_,ho10⟩;(have hz10:=hb10_.size);(have HB10:=H_ ((z_ (B_ wq wq)).trans (hb10_.mono (le_ _))));obtain⟨h0,h1,h2⟩:=HS.o w10 HB10.o;obtain⟨i0,i1,i2⟩:=HS.o (w10.alloc (.cells #[.int .i64 (α:Nat),.int .i64 (16+(j:Int))] 3)) (HB10.o.trans ((η w10 _).mono hz10));(have HOA:=H_ (ho10.below (η w10 (.cells #[.int .i64 (α:Nat),.int .i64 (16+(j:Int))] 3)) (le_ _)));(have LA:Q_ (Sl 1 w10 (w10+1) (w10.alloc (.cells #[.int .i64 (α:Nat),.int .i64 (16+(j:Int))] 3)) (.slice (q_ w10 0) 2 2) 2 [.int .i64 (α:Nat),.int .i64 (16+(j:Int))]):=H_ (ς 1 3 w10 [.int .i64 (α:Nat),.int .i64 (16+(j:Int))] 2 (by omega) rfl).sl);obtain⟨ya,yc,rfl⟩:=θ ho10;clear hb10_ ho10)
                            | (go_at_call 76;refine(zdp _ _ _ t ((wq.alloc (.cells #[.int .i64 (α:Nat),.int .i64 (16+(j:Int))] 3)).drew) HTQL.o (by omega)).mono ?_;rintro e10 w10 ⟨v10,rfl,hb10_,ho10⟩;(have hz10:=hb10_.size);(have HB10:=H_ ((z_ (η wq (.cells #[.int .i64 (α:Nat),.int .i64 (16+(j:Int))] 3))).trans (hb10_.mono (by rw[hql];exact Nat.le_succ _))));obtain⟨h0,h1,h2⟩:=HS.o w10 HB10.o;(have HOB:=H_ ho10);(have LB:Q_ (Sl 1 wq (wq+1) w10 (.slice (q_ wq 0) 2 2) 2 [.int .i64 (α:Nat),.int .i64 (16+(j:Int))]):=H_ (HLQ.o.below hb10_ (by rw[hql];exact le_ _)));obtain⟨ya,yc,rfl⟩:=θ ho10;clear hb10_ ho10)
                            | (refine ziq (by rfl) _ _ 22 (by rfl) 3 (0:Int) 1 8 underlying22 τ (by rfl) (by decide) (by decide) (by rfl) HOA.o (by rfl) LA.o (by intro u hu;simp only[N_,bj_,bx_] at hu;rcases hu with rfl | rfl<;>rfl) (by omega) (by omega) (by simp only[ν];omega) ?_;intro v11 w11 ho11 hg11 hl11;(have HB11:=H_ (δ (HB10.o.trans ((η w10 (.cells #[.int .i64 (α:Nat),.int .i64 (16+(j:Int))] 3)).mono (by omega))) (zbz hg11 HOA.o.lt) (by omega) (by simp only[ν];omega)));(have HOT:=H_ (γ.len (xs:=t++[(α:Int),16+(j:Int)]) (by rw[zae];exact ho11) (by simp)));obtain⟨yb,ybc,rfl⟩:=θ ho11;obtain⟨k0,k1,k2⟩:=HS.o w11 HB11.o;obtain⟨l0,l1,l2⟩:=HS.o (w11.alloc (.cells #[.int .i64 ((stepU a x m:Nat):Int),.int .i64 ((stepU b y m:Nat):Int),.slice yb (t.length+2) ybc] 193)) (HB11.o.trans ((η w11 _).mono HB11.o.size));(have hz11:=HB11.o.size);(have L11:Q_ (Sl 3 w11 (w11+1) (w11.alloc (.cells #[.int .i64 ((stepU a x m:Nat):Int),.int .i64 ((stepU b y m:Nat):Int),.slice yb (t.length+2) ybc] 193)) (.slice (q_ w11 0) 1 1) 1 [.int .i64 ((stepU a x m:Nat):Int),.int .i64 ((stepU b y m:Nat):Int),.slice yb (t.length+2) ybc]):=H_ (ς 3 193 w11 [.int .i64 ((stepU a x m:Nat):Int),.int .i64 ((stepU b y m:Nat):Int),.slice yb (t.length+2) ybc] 1 (by omega) rfl).sl);(have HE11:=H_ ((HFQ.o.below HB11.o (le_ _)).own.below (η w11 (.cells #[.int .i64 ((stepU a x m:Nat):Int),.int .i64 ((stepU b y m:Nat):Int),.slice yb (t.length+2) ybc] 193)) (by omega)));clear ho11 hg11 hl11)
                            | (refine ziq (by rfl) _ _ 22 (by rfl) 3 (0:Int) 1 8 underlying22 τ (by rfl) (by decide) (by decide) (by rfl) HOB.o (by rfl) LB.o (by intro u hu;simp only[N_,bj_,bx_] at hu;rcases hu with rfl | rfl<;>rfl) (by omega) (by omega) (by omega) ?_;intro v11 w11 ho11 hg11 hl11;(have HB11:=H_ (δ HB10.o (zbz hg11 HOB.o.lt) (by omega) (by omega)));(have HOT:=H_ (γ.len (xs:=t++[(α:Int),16+(j:Int)]) (by rw[zae];exact ho11) (by simp)));obtain⟨yb,ybc,rfl⟩:=θ ho11;obtain⟨k0,k1,k2⟩:=HS.o w11 HB11.o;obtain⟨l0,l1,l2⟩:=HS.o (w11.alloc (.cells #[.int .i64 ((stepU a x m:Nat):Int),.int .i64 ((stepU b y m:Nat):Int),.slice yb (t.length+2) ybc] 193)) (HB11.o.trans ((η w11 _).mono HB11.o.size));(have hz11:=HB11.o.size);(have L11:Q_ (Sl 3 w11 (w11+1) (w11.alloc (.cells #[.int .i64 ((stepU a x m:Nat):Int),.int .i64 ((stepU b y m:Nat):Int),.slice yb (t.length+2) ybc] 193)) (.slice (q_ w11 0) 1 1) 1 [.int .i64 ((stepU a x m:Nat):Int),.int .i64 ((stepU b y m:Nat):Int),.slice yb (t.length+2) ybc]):=H_ (ς 3 193 w11 [.int .i64 ((stepU a x m:Nat):Int),.int .i64 ((stepU b y m:Nat):Int),.slice yb (t.length+2) ybc] 1 (by omega) rfl).sl);(have HE11:=H_ ((HFQ.o.below HB11.o (le_ _)).own.below (η w11 (.cells #[.int .i64 ((stepU a x m:Nat):Int),.int .i64 ((stepU b y m:Nat):Int),.slice yb (t.length+2) ybc] 193)) (by omega)));clear ho11 hg11 hl11)
                            | (refine ziq (by rfl) _ _ 194 (by rfl) 193 (.agg #[(0:Int),(0:Int),()]) 3 40 underlying194 z2o (by rfl) (by decide) (by decide) (by rfl) HE11.o (by rfl) L11.o (by intro u hu;simp only[N_,bj_,bx_] at hu;rcases hu with rfl | rfl | rfl<;>rfl) (by omega) (by omega) (by simp only[ν];omega) ?_;intro v12 w12 ho12 hg12 hl12;obtain⟨q0,q1,q2⟩:=HS12.o _ w12 (HB11.o.trans ((η w11 (.cells #[.int .i64 ((stepU a x m:Nat):Int),.int .i64 ((stepU b y m:Nat):Int),.slice yb (t.length+2) ybc] 193)).mono hz11)) hg12;obtain⟨yd,ydc,rfl⟩:=θ ho12;(have HF12:=H_ (FwI.push HFC.o HPQ.o.2 HPQ.o.1 HB11.o (HOT.o.lower (by omega) (le_ _)) (by simp;omega) ho12 hg12 hl12 HNM.o ⟨hsm1,hsm2⟩ HRN.o));clear ho12 hg12 hl12))
                          all_goals (
                            clear k0 k1 k2 l0 l1 l2 h0 h1 h2 d0 d1 d2 e0 e1 e2 g0 g1 g2 q0 q1 q2;go_wp2;go_roundw
                            (case rel=>exact⟨j+1,_,_,_,by omega,by go_num,HF12,HGN⟩);case measure=>simp[intOf];omega)
                        · have HGN:=H_ (show (qs4,fl)=goW a b ((x,y),t) (goL a b (qs0,[]) (l.take k)) (3*α+(j+1)) from by
                            (have hg:=HGJ.o;have hm3:=HM.o;rw[<-hm3]at hg;have h:=zqr hg (show nextP a b (x,y) m∈qs4 from av_ hmem))
                            rwa [show m+1=3*α+(j+1) by omega]at h)
                          rw[hmem]at hlk;clear hmem kp HG HF;go_wp2;go_roundw
                          (case rel=>exact⟨j+1,fs,fl,qs4,by omega,by go_num,HFC,HGN⟩);case measure=>simp[intOf];omega
                    · obtain rfl:j=3:=by omega
                      go_wp2;go_roundw
                      (case rel=>exact⟨α+1,fs,fl,qs4,by omega,by go_num,HF,HGJ⟩);case measure=>simp[intOf];omega
                · obtain rfl:α=4:=by omega
                  (have HFU:=H_ HF.o.fu;have HGK:=H_ (show (qs3,fl)=goL a b (qs0,[]) (l.take (k+1)) from by rw[zqc HKL.o,HLK.o];exact HGA.o);clear HF;go_wp2;go_roundw);(case rel=>exact⟨k+1,fs,fl,qs3,by omega,by go_num,HFU,HGK⟩);case measure=>simp[intOf];omega
            · obtain rfl:k=ws.length:=by omega
              have HGE:=H_ (show levGo a b 21 [(1,1)] [((1,1),[])]=levGo a b (21-(n+1)) qs2 fl from by
                rw[HLG.o];exact zqt hlt HHN.o (by rw[HGL.o,HLL.o,Y_]))
              (have HNF:=H_ (show LvI a b w wx (.slice fa fs fc) (2*(n+1)) fs fl qs2 from ⟨HF.o.ways.lower HIS.o.below.size (le_ _) (by omega),HF.o.map,δ HIS.o.below HF.o.o (by omega) HIS.o.below.size,HF.o.seen⟩);clear HF;go_wp2;go_roundw);(case rel=>exact⟨n+1,fs,fl,qs2,by omega,by go_num,HNF,HGE⟩);case measure=>simp[intOf];omega
    · obtain rfl:n=21:=by omega
      go_wp2;refine d_ (v:=.tuple #[(),.bool false]) (by simp[results,results139,go_sem]) rfl ?_;exact ε.mk _ rfl ⟨.inr ⟨HLG.o,rfl⟩,HI.o.below⟩
end
theorem zs8 {e f:List Int}(h:okX e f ((pairsV e f).getD [])=false):equalV e f=if (differV e f).isSome then 0 else -1:=by
 unfold equalV
 split
 ·rename_i hk
  unfold okX at h;rw[hk]at h;simp only[Bool.and_true,Bool.not_eq_false',cy_,t_]at h;have hp:pairsV e f=none:=by unfold pairsV;rw[x_ h]
  rw[hp]at hk;have:=(okP_open hk).2.1;simp at this
 ·rfl
theorem zy3 {e f:List Int}(h:okX e f ((pairsV e f).getD [])=true):equalV e f=1:=by
 unfold okX at h;simp only[j_]at h;unfold equalV;rw[x_ h.2]
theorem zof(lo hi lo' hi':Nat)(ve vf:Value)(e f:List Int)(w:World)(hx:SlI lo hi w ve e)(hy:SlI lo' hi' w vf f)(hh:hi<=w)(hh':hi'<=w)(hm:e.length<=1048576)(hm':f.length<=1048576):
  Calls prog 91 #[ve,vf] w (ε (FtO (differV e f) w)):=by
 have HX:=H_ hx;have HY:=H_ hy;clear hx hy
 go_enter func91,ntmps91
 go_wp2_with fail
 refine(zlu _ _ _ _ _ _ e f w HX.o HY.o hh hh' hm hm').mono ?_;rintro e1 w1 ⟨r,rfl,v1,v2,v3,v4,ok,rfl,ha⟩;have hz1:=ha.below.size;have HA:=H_ ha;clear ha;obtain⟨⟨a1,n1,d1,rfl⟩,a2,n2,d2,rfl⟩:=HA.o.tg.one.shape;obtain⟨⟨a3,n3,d3,rfl⟩,a4,n4,d4,rfl⟩:=HA.o.tg.two.shape;have⟨w2,hw2⟩:=xa_ w1 #[.slice a1 n1 d1,.slice a2 n2 d2,.slice a3 n3 d3,.slice a4 n4 d4] 143;obtain⟨hb2,KT,hs2⟩:=Μ hw2;have HB2:=H_ (HA.o.below.trans (hb2.mono hz1));have HT2:=H_ ((HA.o.tg.below hb2 (le_ _)));have HK2:=H_ KT;clear hb2 KT;cases ok
 ·have HNO:=H_ (show differV e f=none from by unfold differV pairsV;rw[x_ (HA.o.shut rfl)];rfl)
  go_wp2;rw[<-hw2];refine d_ (v:=.tuple #[(),.bool false]) (by simp[results,results91,go_sem]) rfl ?_;exact ε.mk _ rfl ⟨.inr ⟨HNO.o,rfl⟩,HB2.o⟩
 ·have HVA:=H_ (show pairsV e f=pairsA (autV e) (autV f) from by unfold pairsV;rw[m_ (λh=>h.elim (HA.o.open_ rfl).1 (HA.o.open_ rfl).2)])
  go_wp2_with fail
  simp only[<-hw2];clear hw2;refine(zo5 _ _ _ _ _ _ _ _ w2 HT2.o (by omega) (zbs e) (zbs f) (λ_=>True) trivial (λ_ _ _ _=>trivial)).mono ?_;rintro e3 w3 ⟨r,rfl,v,ok,ps,rfl,_,_,_,hpa,_,hb3⟩;rw[<-HVA.o]at hpa;have HPA:=H_ hpa;clear hpa;have hz3:=hb3.size;have HB3:=HB2.tr hb3 (by omega);have HT3:=H_ (HT2.o.below hb3 (by omega));have k3:=HK2.o.below hb3 (by omega);obtain⟨c0,c1,c2,c3⟩:=k3.c4;clear hb3 k3;cases ok
  ·have HNO:=H_ (show differV e f=none from by unfold differV;rw[HPA.o];rfl)
   go_wp2;refine d_ (v:=.tuple #[(),.bool false]) (by simp[results,results91,go_sem]) rfl ?_;exact ε.mk _ rfl ⟨.inr ⟨HNO.o,rfl⟩,HB3.o⟩
  ·have HDV:=H_ (show differV e f=levGo (autV e) (autV f) 21 [(1,1)] [((1,1),[])] from by unfold differV;rw[HPA.o];rfl)
   go_wp2_with fail
   refine(zvb _ _ _ _ _ _ _ _ w3 HT3.o (by omega) (zbs e) (zbs f)).mono ?_;rw[<-HDV.o];rintro e4 w4 ⟨r,rfl,hor,hb4⟩;have HB4:=HB3.tr hb4 (by omega);have hz4:=hb4.size;clear hb4;rcases hor with⟨t,v4',ht,rfl,hov,hl⟩|⟨hn,rfl⟩
   ·(have HOV:=H_ (show γ w w4 3 w4 v4' t/\t.length<=64 from ⟨hov.lower (by omega) (le_ _),hl⟩));have HT:=H_ ht;clear hov ht;go_wp2;refine d_ (v:=.tuple #[v4',.bool true]) (by simp[results,results91,go_sem]) rfl ?_;exact ε.mk _ rfl ⟨.inl ⟨_,_,HT.o,rfl,HOV.o⟩,HB4.o⟩
   ·(have HN:=H_ hn);clear hn;go_wp2;refine d_ (v:=.tuple #[(),.bool false]) (by simp[results,results91,go_sem]) rfl ?_;exact ε.mk _ rfl ⟨.inr ⟨HN.o,rfl⟩,HB4.o⟩
theorem z02(lo hi lo' hi':Nat)(ve vf:Value)(e f:List Int)(w:World)(hx:SlI lo hi w ve e)(hy:SlI lo' hi' w vf f)(hh:hi<=w)(hh':hi'<=w)(hm:e.length<=1048576)(hm':f.length<=1048576):
  Calls prog 90 #[ve,vf] w λr w'=>r=.returned (.int .i64 (equalV e f))/\Below w w w':=by
 have HX:=H_ hx;have HY:=H_ hy;clear hx hy
 go_enter func90,ntmps90
 go_wp2_with fail
 refine(zyc _ _ _ _ _ _ e f w HX.o HY.o hh hh' hm hm').mono ?_;rintro e1 w1 ⟨vp,rfl,⟨ss,hp,h112,hro⟩,hb1⟩;have hz1:=hb1.size;have HP:=H_ (a_ hp.sl hro);have HB1:=H_ hb1;clear hp hro hb1;go_wp2_with fail
 refine(z14 _ _ _ _ _ _ _ _ _ e f _ w1 (HX.o.below HB1.o hh) (HY.o.below HB1.o hh') HP.o.1 (by omega) (by omega) (le_ _) hm hm' _ rfl HP.o.2).mono ?_;rintro e2 w2 ⟨b,rfl,hbv,hb2⟩;have hz2:=hb2.size;have HB2:=HB1.tr hb2 hz1;have HBV:=H_ hbv;clear hb2 hbv;cases b
 ·go_wp2_with fail
  refine(zof _ _ _ _ _ _ e f w2 (HX.o.below HB2.o hh) (HY.o.below HB2.o hh') (by omega) (by omega) hm hm').mono ?_;rintro e3 w3 ⟨r,rfl,hor,hb3⟩;have HB3:=HB2.tr hb3 (by omega);clear hb3;rcases hor with⟨t,v4',ht,rfl,_,_⟩|⟨hn,rfl⟩
  ·have HE:Q_ (equalV e f=0):=H_ (by rw[zs8 HBV.o.symm,ht];rfl)
   clear ht;go_wp2;go_ret;exact⟨by rw[HE.o];rfl,HB3.o⟩
  ·have HE:Q_ (equalV e f=-1):=H_ (by rw[zs8 HBV.o.symm,hn];rfl)
   clear hn;go_wp2;go_ret;exact⟨by rw[HE.o];rfl,HB3.o⟩
 ·have HE:Q_ (equalV e f=1):=H_ (zy3 HBV.o.symm)
  go_wp2;go_ret;exact⟨by rw[HE.o];rfl,HB2.o⟩
def zaw(t k:Nat):Int:=if t.testBit k then 1 else 0
theorem zn3(t k:Nat):zaw t k=0\/zaw t k=1:=by unfold zaw;split<;>simp
theorem z0q(t k:Nat):((t:Int)/2 ^ k).tmod 2=zaw t k:=by
 unfold zaw;rw[show ((t:Int)/2 ^ k)=((t/2 ^ k:Nat):Int) by push_cast;rfl,br_];have:=bg_ (t/2 ^ k);rw[show (((t/2 ^ k:Nat):Int).tmod 2)=((t/2 ^ k%2:Nat):Int) from by rw[Int.tmod_eq_emod_of_nonneg (Int.natCast_nonneg _)];rfl];rcases this with h|h<;>rw[h]<;>rfl
theorem zgu(t k:Nat)(_ht:t<1099511627776)(hk:k<=60)(w:World):Calls prog 109 #[.int .i64 t,.int .i64 k] w λe w'=>e=.returned (.int .i64 (zaw t k))/\w=w':=by
 have HB:=H_ (z0q t k)
 go_enter func109,ntmps109
 go_wp2;go_ret;exact⟨zdk HB.o,rfl⟩
theorem zxh(a b k:Nat):(((a &&& b)%2 ^ (k+1):Nat):Int)=(((a &&& b)%2 ^ k:Nat):Int)+zaw a k*zaw b k*2 ^ k:=by
 have h2:(a &&& b).testBit k=(a.testBit k&&b.testBit k):=Nat.testBit_and a b k
 have h5:(a &&& b)/2 ^ k%2=if a.testBit k&&b.testBit k then 1 else 0:=by
  rw[br_]at h2;have h6:=bg_ ((a &&& b)/2 ^ k);cases h7:(a.testBit k&&b.testBit k)
  ·rw[h7]at h2
   have:=bc_ h2;simp;omega
  ·rw[h7]at h2
   have:=av_ h2;simp;omega
 rw[Nat.mod_pow_succ,h5];unfold zaw;cases a.testBit k<;>cases b.testBit k<;>simp
theorem zo2:∀ {k:Nat},k<21->wrap64 (2 ^ k)=((2 ^ k:Nat):Int):=by decide +kernel
theorem zp3(a b:Nat)(ha:a<1048576)(hb:b<1048576)(w:World):Calls prog 158 #[.int .i64 a,.int .i64 b] w λe w'=>e=.returned ((a &&& b:Nat):Int)/\w=w':=by
 go_enter func158,ntmps158
 go_wp2
 go_loop [5,6] (λo i=>∃ k:Nat,k<=20/\i=.int .i64 k/\o=.int .i64 (((a &&& b)%2 ^ k:Nat):Int)) (λ_ i=>20-(intOf i).toNat)
 case atStart=>exact⟨0,by omega,rfl,by rw[Nat.pow_zero,Nat.mod_one];rfl⟩
 case round=>
  obtain⟨k,hk,rfl,rfl⟩:=hrel;obtain⟨K,hK⟩:∃ K:Nat,K=2 ^ k:=⟨_,rfl⟩;have pw:=zo2 (k:=k) (by omega);have HS:=H_ (zxh a b k);rw[<-hK]at pw HS;rw[<-hK];have⟨o,ho⟩:=ex_ ((a &&& b)%K);have hoK:o<K:=by rw[ho,hK];exact eh_ _ (cz_ k)
  rw[<-ho];rw[<-ho]at HS
  have ho20:o<1048576:=by
   rw[ho];exact c4_ (Nat.mod_le _ _) (c4_ do_ ha)
  have HL:Q_ (a<K\/b<K->o=a &&& b):=H_ λh=>by
   rw[ho];have h1:a &&& b<=a:=do_;have h2:a &&& b<=b:=Nat.and_le_right;exact b4_ (by omega)
  have hK20:K<=1048576:=by rw[hK];exact ah_ (n:=2) (by omega) (show k<=20 from hk)
  have HK20:Q_ (k=20->K=1048576):=H_ λh=>by rw[hK,h]
  have HKi:Q_ ((2:Int) ^ k=(K:Int)):=H_ (by rw[hK];push_cast;rfl);clear hK ho;by_cases h1:K<=a
  ·by_cases h2:K<=b
   ·have hk20:k<20:=by
     rcases bi_ k 20 with h|h
     ·exact h
     ·(have:=HK20.o (by omega));omega
    go_wp2_with fail
    refine(zgu a k (by omega) (by omega) _).mono ?_;rintro e _ ⟨rfl,rfl⟩;rw[HKi.o]at HS;rcases zn3 a k with h3|h3<;>rw[h3] at HS ⊢
    all_goals
     clear h3;go_wp2_with fail
     refine(zgu b k (by omega) (by omega) _).mono ?_;rintro e _ ⟨rfl,rfl⟩;rcases zn3 b k with h4|h4<;>rw[h4] at HS ⊢
     all_goals
      clear h4;go_wp2;go_round
      (case rel=>exact⟨k+1,by omega,by go_num,by rw[HS.o];simp⟩);case measure=>simp[intOf];omega
   ·(have HE:=H_ (HL.o (by omega)));go_wp2;go_ret;exact⟨zdk (by rw[HE.o]),rfl⟩
  ·have HE:=H_ (HL.o (by omega))
   go_wp2;go_ret;exact⟨zdk (by rw[HE.o]),rfl⟩
end Go.Proofs.YtfnnhimopokpnaaGreatDoor
