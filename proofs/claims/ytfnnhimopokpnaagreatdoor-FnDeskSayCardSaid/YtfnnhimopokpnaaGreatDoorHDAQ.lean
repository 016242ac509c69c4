/- Lemmas for this seat; no condition. -/
import Derived.Test.YtfnnhimopokpnaaGreatDoorHDAP
namespace Go.Proofs.YtfnnhimopokpnaaGreatDoor
open Go.RowKit Proofs.Tryz
set_option maxRecDepth 100000
set_option maxHeartbeats 0
set_option linter.all false
variable {q k n m:Nat}
section
def FtO(o:Option (List Int))(w:World)(r:Value)(w':World):Prop:=((∃ t v,o=some t/\r=.tuple #[v,.bool true]/\γ w w' 3 w' v t/\t.length<=64)\/(o=none/\r=.tuple #[(),.bool false]))/\Below w w w'
theorem zwe {α:Nat}(ha:α<4)(h:q.testBit α=true)(h0:∀ j,j<α->q.testBit j=false):lowBit q=some α:=by
 unfold lowBit;rcases (show α=0\/α=1\/α=2\/α=3 by omega) with rfl|rfl|rfl|rfl
 ·simp[List.range,List.range.loop,List.find?,h]
 ·simp[List.range,List.range.loop,List.find?,h,h0 0 (by omega)]
 ·simp[List.range,List.range.loop,List.find?,h,h0 0 (by omega),h0 1 (by omega)]
 ·simp[List.range,List.range.loop,List.find?,h,h0 0 (by omega),h0 1 (by omega),h0 2 (by omega)]
theorem z0o(h0:∀ j,j<4->q.testBit j=false):lowBit q=none:=by
 unfold lowBit;simp[List.range,List.range.loop,List.find?,h0 0 (by omega),h0 1 (by omega),h0 2 (by omega),h0 3 (by omega)]
theorem zvu {a b:Au} {l:List Way2}(hk:k<l.length){p:Nat × Nat}{t:List Int}(he:l[k]=(p,t)){α:Nat}(hl:lowBit (apartP a b p)=some α):hitL a b (l.drop k)=some (t++[(α:Int)]):=by
 rw[y_ hk,hitL,hitW,he,hl];rfl
theorem zut {a b:Au} {l:List Way2}(hk:k<l.length){p:Nat × Nat}{t:List Int}(he:l[k]=(p,t))(hl:lowBit (apartP a b p)=none):hitL a b (l.drop k)=hitL a b (l.drop (k+1)):=by
 rw[y_ hk,hitL,hitW,he,hl];rfl
theorem zr3(a b:Au)(w:Way2):∀ (l:List Way2) (s:List (Nat × Nat) × List Way2),goL a b s (l++[w])=goW a b w (goL a b s l) 12
 | [],s=>by simp only[ad_,goL]
 | x :: l,s=>by
  rw[aj_];simp only[goL];exact zr3 a b w l _
theorem zqp {a b:Au} {l:List Way2}(hk:k<l.length)(s:List (Nat × Nat) × List Way2):goL a b s (l.take (k+1))=goW a b l[k] (goL a b s (l.take k)) 12:=by
 rw[F_ hk,zr3]
theorem zp3 {a b:Au}(hn:n<21){seen:List (Nat × Nat)}{l:List Way2}{t:List Int}(h:hitL a b l=some t):levGo a b (21-n) seen l=some t:=by
 rw[show 21-n=(21-(n+1))+1 by omega,levGo,h]
theorem zss {a b:Au}(hn:n<21){seen:List (Nat × Nat)}{l:List Way2}(h:hitL a b l=none){q:List (Nat × Nat)}{f:List Way2}(hq:(q,f)=goL a b (seen,[]) l):levGo a b (21-n) seen l=levGo a b (21-(n+1)) q f:=by
 rw[show 21-n=(21-(n+1))+1 by omega,levGo,h,<-hq]
theorem zsm {a b:Au} {w:Way2} {s:List (Nat × Nat) × List Way2} {q:List (Nat × Nat)} {f:List Way2}(hs:(q,f)=goW a b w s m)(h:nextP a b w.1 m∈q):(q,f)=goW a b w s (m+1):=by
 rw[goW,<-hs,x_ h]
theorem zr2 {a b:Au} {w:Way2} {s:List (Nat × Nat) × List Way2} {q:List (Nat × Nat)} {f:List Way2}(hs:(q,f)=goW a b w s m)(h:nextP a b w.1 m ∉ q):(q++[nextP a b w.1 m],f++[(nextP a b w.1 m,w.2++[((m/3:Nat):Int),16+((m%3:Nat):Int)])])=goW a b w s (m+1):=by
 rw[goW,<-hs,m_ h]
theorem zu5(lo hi:Nat)(v1 v2 v3 v4:Value)(a b:Au)(w:World)(h:TgS lo hi w v1 v2 v3 v4 a b)(hh:hi<=w)(ha:zb4 a)(hb:zb4 b):
    Calls prog 139 #[.agg #[(1:Int),(1:Int)],.func (.func 140) #[.agg #[v1,v2,v3,v4]] #[],.func (.func 141) #[.agg #[v1,v2,v3,v4]] #[]] w (ι (FtO (levGo a b 21 [(1,1)] [((1,1),[])]) w)):=by
  have⟨w0,e7⟩:=xa_ w #[(1:Int),(1:Int)] 151;have⟨w1,d7⟩:=xa_ w0 #[(1:Int),(1:Int),()] 193;have⟨w2,f3⟩:=ex_ (w1.alloc (.map #[] 0));have b0:Below w w w0:=by rw[e7];exact ζ _ _
  have b1:Below w0 w0 w1:=by rw[d7];exact ζ _ _
  have b2:Below w1 w1 w2:=by rw[f3];exact ζ _ _
  have k0:Blk w (.cells #[(1:Int),(1:Int)] 151) w0:=by rw[e7];exact κ w _
  have s0:w0=w.heap.size+1:=by rw[e7];simp
  have s1:w1=w.heap.size+2:=by rw[d7];simp;omega
  have s2:w2=w.heap.size+3:=by rw[f3];simp;omega
  have k1:Own 3 (w+1) (w+2) 193 w1 (.slice (q_ (w+1) 0) 1 1) 1 (wys [((1,1),.slice none 0 0)]):=by
    have:=ς 3 193 w0 (wys [((1,1),.slice none 0 0)]) 1 (by omega) rfl;rw[s0]at this;rw[d7];exact this
  have k2:PM w2 (w+2) []:=by rw[<-s1,f3];exact PM.made w1
  obtain⟨w3,g6,o1,j9⟩:=k2.put (p:=(1,1)) ⟨by decide,by decide⟩ (by simp);have j6:=zet j9;have s3:=j9.size;have m5:=H_ g6
  have HI : Q_ (LvI a b w w3 (.slice (some ⟨w.heap.size + 1, 0, none⟩) 1 1) (2 * 0) [((1, 1), .slice none 0 0)] [((1, 1), [])] [(1, 1)]) := H_ ⟨⟨((k1.below b2 (by omega)).outside j6 (by omega)).wide2 (by omega) (by omega), rfl, λi h1 h2 => by
      (obtain rfl:i=0:=by simp at h1;omega);exact⟨rfl,Ω _ _ _ _ _,by simp⟩⟩,o1,ε ((b0.trans (b1.mono (by omega))).trans (b2.mono (by omega))) j6 (by omega) (by omega),⟨by simp,by simp,λx hx=>by
      simp only[k_]at hx;subst hx;exact⟨RchP.start a b,by decide,by decide⟩,by simp⟩⟩
  have HT:=H_ h;have f5:=H_ ha;have f6:=H_ hb
  have HK:=H_ (show w2.cell? (p_ w 0)=some (.int .i64 1)/\w2.cell? (p_ w 1)=some (.int .i64 1) from by
    have hk:=(k0.below b1 (by omega)).below b2 (by omega);exact⟨hk.cell 0,hk.cell 1⟩)
  clear h ha hb b0 b1 b2 k0 k1 k2 o1 j9 j6 g6
  go_enter func139,ntmps139
  go_upto_region 2 with fail
  simp only[<-e7,<-d7];have t7:(Instr.makeMap 191 none).run prog w1=.ok (.map (some (w.heap.size+2))) w2:=by rw[<-s1,f3];rfl
  have u3:=HK.o.1;have u4:=HK.o.2;have g6:(Instr.mapUpdate 191 (.map (some (w.heap.size+2))) (.agg #[(1:Int),(1:Int)]) (.bool true)).run prog w2=.ok () w3:=m5.o;clear e7 d7 f3 m5;go_wp2;clear t7 u3 u4 g6 HK;go_loopw [8,10] (λlv i wr=>∃ (n:Nat) (ws:List ((Nat × Nat) × Value)) (l:List Way2) (qs:List (Nat × Nat)),n<=21/\i=.int .i64 n/\Q_ (LvI a b w wr lv (2*n) ws l qs)/\Q_ (levGo a b 21 [(1,1)] [((1,1),[])]=levGo a b (21-n) qs l)) (λ_ i _=>21-(intOf i).toNat)
  case atStart=>exact⟨0,_,_,_,by omega,rfl,HI,H_ rfl⟩
  case round=>
    rename World=>wr
    clear HI;obtain⟨n,ws,l,qs,hn,rfl,HI,f8⟩:=hrel;have f9:=H_ HI.o.ways.len;obtain⟨la,lc,rfl⟩:=η HI.o.ways.own;obtain⟨d7,x8⟩:=HI.o.seen.few;by_cases hlt:n<21
    · have v7:decide ((n:Int)<=20)=true:=by simp;omega
      go_wp2;go_loopw [33] (λi wx=>∃ k:Nat,k<=ws.length/\i=.int .i64 k/\Q_ (Below wr wr wx)/\Q_ (hitL a b l=hitL a b (l.drop k))) (λi _=>ws.length-(intOf i).toNat)
      case atStart=>exact⟨0,by omega,rfl,H_ (B_ _ _),H_ rfl⟩
      case round=>
        rename World=>wx
        obtain⟨k,hk,rfl,HX,i5⟩:=hrel;by_cases a3:k<ws.length
        · obtain⟨g4,rfl,_,_,t4,b7,b8,b9⟩:=(HI.o.ways.below HX.o (le_ _)).get k a3
          (have a7:=H_ (HI.o.seen.rch _ (u_ a3));have d6:k<l.length:=by rw[<-f9.o];exact a3);(obtain⟨ht0,ht1,c6⟩:=HI.o.ways.tr k a3 d6;have⟨t,c7⟩:=ex_ (l[k].2);have b4:=H_ (show l[k]=(ws[k].1,t) from Prod.ext ht0.symm c7.symm);have f7:=H_ d6;rw[<-c7]at ht1 c6;clear ht0 c7;have a4:=H_ (a_ ht1 c6);clear ht1 c6;generalize ws[k]=q at b7 b8 b9 a7 a4 b4;obtain⟨⟨x,y⟩,s⟩:=q;simp only at b7 b8 b9 a7 a4 b4;obtain⟨sa,sc,rfl⟩:=η a4.o.1;have hx:x<1048576:=by have:=a7.o.2.1;omega);(have hy:y<1048576:=by have:=a7.o.2.2;omega);(have ht1:t.length<=42:=by have:=a4.o.2;omega);(have⟨w5,b3⟩:=xa_ wx #[.int .i64 (x:Nat),.int .i64 (y:Nat),.slice sa t sc] 193;obtain⟨j8,n5,t8⟩:=Η b3;have u2:=HI.o.below.size;have o8:=HX.o.size;have m8:=H_ (((HT.o.below HI.o.below hh).below HX.o (by omega)).below j8 (by omega));have p5:=HX.tr j8 o8;have KP:=H_ n5;have⟨c0,c1⟩:=KP.o.c2;rw[b3]at c0 c1;have⟨q,hq⟩:=ex_ (apartP a b (x,y));have i7:=H_ hq)
          have o3:q<16:=by
            rw[hq];exact Nat.xor_lt_two_pow (n:=4) (f5.o.endsLt x) (f6.o.endsLt y)
          clear hq j8 n5;go_wp2_with fail
          simp only[<-b3];refine(zpo _ _ _ _ _ _ _ _ x y w5 m8.o (by omega) f5.o f6.o hx hy).mono ?_;rintro e8 w8 ⟨rfl,g5⟩;rw[<-i7.o];have y8:=g5.size;have k8:=p5.tr g5 (by omega);have n4:=H_ (KP.o.below g5 (by omega));clear b3 c0 c1 b7 b8 b9 g5 m8 KP;go_wp2;go_loopw [41] (λi wy=>∃ α:Nat,α<=4/\i=.int .i64 α/\Q_ (Below w8 w8 wy)/\Q_ (∀ j,j<α->q.testBit j=false)) (λi _=>4-(intOf i).toNat)
          case atStart=>exact⟨0,by omega,rfl,H_ (B_ _ _),H_ (λj hj=>by omega)⟩
          case round=>
            rename World=>wy
            obtain⟨α,hα,rfl,HY,HJ⟩:=hrel;have y9:=HY.o.size;by_cases c8:α<4
            · have t3:decide ((α:Int)<4)=true:=by simp;omega
              go_wp2_with fail
              refine(zg0 q α o3 c8 wy).mono ?_;rintro e9 _ ⟨rfl,rfl⟩;rw[zsi];cases hbit:q.testBit α
              · have r5:=H_ (show ∀ j,j<α+1->q.testBit j=false from λj hj=>by
                  by_cases t5:j=α
                  · rw[t5];exact hbit
                  · exact HJ.o j (by omega))
                clear hbit;go_wp2;go_roundw
                (case rel=>exact⟨α+1,by omega,by go_num,HY,r5⟩);case measure=>simp[intOf];omega
              · have kp:=n4.o.below HY.o n4.o.lt
                (have c2:=kp.cell 2;have k9:=k8.tr HY.o (by omega))
                have m6:=H_ (show levGo a b 21 [(1,1)] [((1,1),[])]=some (t++[(α:Int)]) from by
                  rw[f8.o];exact zp3 hlt (i5.o.trans (zvu f7.o b4.o (by rw[<-i7.o];exact zwe c8 hbit HJ.o))))
                clear hbit kp;go_wp2_with fail
                refine(zdo _ _ _ t wy (a4.o.1.sl.below k9.o (le_ _)) (by omega)).mono ?_;rintro n7 a1 ⟨p2,rfl,d9,K⟩;have f4:=d9.size;have p7:=k9.tr d9 (by omega);have m0:=H_ K;obtain⟨ya,yc,rfl⟩:=η K;clear d9 K c2;go_wp2_with (at_builtin;go_loud (refine zap a1 rfl _ _ 22 rfl 3 (0:Int) 1 8 underlying22 ω rfl (by decide) (by decide) rfl m0.o 1 (δ [(α:Int)]) rfl rfl (Ι _) rfl ?c1 ?c2 ?_))
                case c1=>omega
                case c2=>omega
                intro p3 E U d3 _;obtain⟨yb,a2,rfl⟩:=η U;have s6:=H_ (show γ w E 3 E (.slice yb (t.length+1) a2) (t++[(α:Int)]) from (γ.len (xs:=t++[(α:Int)]) (by rw[zaa];exact U) (by simp)).lower (by omega) (le_ _));have p6:=H_ (HI.o.below.trans ((ε p7.o d3 (by omega) (by omega)).mono u2));clear U d3;go_wp2;refine d_ (v:=.tuple #[.slice yb (t.length+1) a2,.bool true]) (by simp[results,results139,go_sem]) rfl ?_;exact ι.mk _ rfl ⟨.inl ⟨_,_,m6.o,rfl,s6.o,by simp;omega⟩,p6.o⟩
            · obtain rfl:α=4:=by omega
              (have t2:=k8.tr HY.o (by omega);have i6:=H_ (i5.o.trans (zut f7.o b4.o (by rw[<-i7.o];exact z0o HJ.o)));clear HX;go_wp2;go_roundw);(case rel=>exact⟨k+1,by omega,by go_num,t2,i6⟩);case measure=>simp[intOf];omega
        · obtain rfl:k=ws.length:=by omega
          (have Z:=H_ (HI.o.go HX.o);have i6:=H_ (show hitL a b l=none from by rw[i5.o,az_ (by rw[f9.o];exact le_ _)];rfl);have⟨wS,o7⟩:=ex_ wx;rw[<-o7]at Z ⊢;clear o7 HI HX;have⟨d8,k5⟩:=ex_ qs;have s7:=H_ k5;rw[<-k5]at f8;clear k5;go_wp2;go_loopw [15,57] (λv i wx=>∃ (k:Nat) (fs:List ((Nat × Nat) × Value)) (fl:List Way2) (qs:List (Nat × Nat)),k<=ws.length/\i=.int .i64 k/\Q_ (FuI a b (w+2) wS wx v (2*n+2) fs fl qs)/\Q_ ((qs,fl)=goL a b (d8,[]) (l.take k))) (λ_ i _=>ws.length-(intOf i).toNat));case atStart=>exact⟨0,[],[],qs,by omega,rfl,H_ ⟨WyL.nil _ _ _ _,Z.o.map,β.refl _ _ _,Z.o.seen.none⟩,H_ (by rw[s7.o];rfl)⟩
          case round=>
            rename World=>wx
            obtain⟨k,fs,fl,k6,hk,rfl,HF,l8⟩:=hrel;have o8:=HF.o.o.size;obtain⟨fa,fc,rfl⟩:=η HF.o.ways.own;by_cases a3:k<ws.length
            · have r7:=H_ (HF.o.seek Z.o.ways Z.o.map)
              (obtain⟨g4,rfl,_,_,t4,b7,b8,b9⟩:=r7.o.get k a3;have a7:=H_ (Z.o.seen.rch _ (u_ a3));have d6:k<l.length:=by rw[<-f9.o];exact a3);(obtain⟨ht0,ht1,c6⟩:=Z.o.ways.tr k a3 d6;have⟨t,c7⟩:=ex_ (l[k].2);have b4:=H_ (show l[k]=(ws[k].1,t) from Prod.ext ht0.symm c7.symm);have f7:=H_ d6;rw[<-c7]at ht1 c6;clear ht0 c7;have a4:=H_ (a_ ht1 c6);clear ht1 c6;generalize ws[k]=q at b7 b8 b9 a7 a4 b4;obtain⟨⟨x,y⟩,s⟩:=q;simp only at b7 b8 b9 a7 a4 b4;obtain⟨sa,sc,rfl⟩:=η a4.o.1;have hx:x<1048576:=by have:=a7.o.2.1;omega);(have hy:y<1048576:=by have:=a7.o.2.2;omega);(have ht1:t.length<=42:=by have:=a4.o.2;omega);(have i8:=H_ (HF.o.beside #[.int .i64 (x:Nat),.int .i64 (y:Nat),.slice sa t sc]);have⟨w5,b3⟩:=xa_ wx #[.int .i64 (x:Nat),.int .i64 (y:Nat),.slice sa t sc] 193;have t8:wx+1<=w5.heap.size:=by rw[b3];simp);rw[<-b3]at i8;go_wp2;simp only[<-b3];clear b3 b7 b8 b9 HF;go_loopw [15,61] (λv i wy=>∃ (α:Nat) (fs:List ((Nat × Nat) × Value)) (fl:List Way2) (qs:List (Nat × Nat)),α<=4/\i=.int .i64 α/\Q_ (FwI a b (w+2) wS wx #[.int .i64 (x:Nat),.int .i64 (y:Nat),.slice sa t sc] wy v (2*n+2) fs fl qs)/\Q_ ((qs,fl)=goW a b ((x,y),t) (goL a b (d8,[]) (l.take k)) (3*α))) (λ_ i _=>4-(intOf i).toNat)
              case atStart=>exact⟨0,_,_,_,by omega,rfl,i8,l8⟩
              case round=>
                rename World=>wy
                clear i8;obtain⟨α,fs,fl,o9,hα,rfl,HF,l7⟩:=hrel;obtain⟨fa,fc,rfl⟩:=η HF.o.fu.ways.own;by_cases c8:α<4
                · have t3:decide ((α:Int)<4)=true:=by simp;omega
                  go_wp2;go_loopw [15,19] (λv i wz=>∃ (j:Nat) (fs:List ((Nat × Nat) × Value)) (fl:List Way2) (qs:List (Nat × Nat)),j<=3/\i=.int .i64 (16+(j:Int))/\Q_ (FwI a b (w+2) wS wx #[.int .i64 (x:Nat),.int .i64 (y:Nat),.slice sa t sc] wz v (2*n+2) fs fl qs)/\Q_ ((qs,fl)=goW a b ((x,y),t) (goL a b (d8,[]) (l.take k)) (3*α+j))) (λ_ i _=>19-(intOf i).toNat)
                  case atStart=>exact⟨0,_,_,_,by omega,rfl,HF,l7⟩
                  case round=>
                    rename World=>wz
                    clear HF;obtain⟨j,fs,fl,b6,hj,rfl,HF,i3⟩:=hrel;obtain⟨fa,fc,rfl⟩:=η HF.o.fu.ways.own;by_cases u8:j<3
                    · have v6:decide ((16:Int)+(j:Int)<=18)=true:=by simp;omega
                      (have⟨m,hm⟩:=ex_ (3*α+j);have c9:m<12:=by omega);(have HM:=H_ hm;clear hm;have z4:=HF.o.fu.o.size;have s9:=H_ ((HT.o.below Z.o.below hh).outside HF.o.fu.o (.inl (by omega)));have l9:Q_ (∀ w':World,Below wz wz w'->Calls prog 140 #[.agg #[v1,v2,v3,v4],.agg #[.int .i64 (x:Nat),.int .i64 (y:Nat)],.int .i64 (m:Nat)] w' λe g7=>e=.returned (.agg #[.int .i64 ((stepU a x m:Nat):Int),.int .i64 ((stepU b y m:Nat):Int)])/\Below w' w' g7):=H_ λw' d5=>zll lo hi v1 v2 v3 v4 a b x y m w' (s9.o.below d5 (by have:=Z.o.below.size;omega)) (by have:=d5.size;have:=Z.o.below.size;omega) f5.o f6.o hx hy c9)
                      have r8:Q_ (∀ w':World,Calls prog 181 #[.int .i64 α,.int .i64 (16+(j:Int))] w' λe g7=>e=.returned (.int .i64 (m:Nat))/\w'=g7):=H_ λw'=>(zsj α (16+(j:Int)) w' c8 (by omega) (by omega)).mono (by
                        rintro e g7 ⟨rfl,h⟩;refine⟨?_,h⟩;have hm:=HM.o;rw[show 3*(α:Int)+(16+(j:Int))-16=(m:Nat) by omega])
                      (have o5:stepU a x m<1024:=f5.o.step x c9;have o6:stepU b y m<1024:=f6.o.step y c9;have d6:=HF.o.blk.lt;go_upto_region 27 with fail);go_cut [20] (λpv wv=>ze8 wz ((stepU a x m:Nat):Int) ((stepU b y m:Nat):Int) pv wv)
                      case first=>
                        (have n9:Below wz wz wz.drew:=z_ (B_ _ _);have n8:Below wz wz (wz.alloc (.cells #[(0:Int),(0:Int)] 151)).drew:=z_ (ζ wz _);have x7:wz.drew.heap.size=wz.heap.size:=rfl;have t6:(wz.alloc (.cells #[(0:Int),(0:Int)] 151)).drew.heap.size=wz.heap.size+1:=μ _ _;obtain⟨t0,t1⟩:=HF.o.blk.drew.c2;have u0:(wz.alloc (.cells #[(0:Int),(0:Int)] 151)).drew.cell? (p_ wx 0)=_:=HF.o.blk.al.cell 0;have u1:(wz.alloc (.cells #[(0:Int),(0:Int)] 151)).drew.cell? (p_ wx 1)=_:=HF.o.blk.al.cell 1;have HA:=H_ n8;clear n8)
                        go_region_law (first
                          | (go_simp;go_at_call 181;refine(r8.o _).mono ?_;rintro e0 _ ⟨rfl,rfl⟩)
                          | (go_simp;go_at_call 140;refine(l9.o wz.drew n9).mono ?_;rintro e1 w6 ⟨rfl,a6⟩;(have j7:Below wz wz w6:=n9.trans (a6.mono (le_ _)));(have t9:=j7.size);(have p4:=H_ j7);(have kz:=κ w6 (.cells #[(0:Int),(0:Int)] 151));(obtain⟨z0,z1⟩:=kz.c2);(obtain⟨z2,z3⟩:=kz.f2);clear a6 j7 kz)
                          | (go_simp;go_at_call 140;refine(l9.o ((wz.alloc (.cells #[(0:Int),(0:Int)] 151)).drew) HA.o).mono ?_;rintro e1 w6 ⟨rfl,a6⟩;(have t9:=a6.size);(have kz:Blk wz (.cells #[(0:Int),(0:Int)] 151) w6:=(κ wz (.cells #[(0:Int),(0:Int)] 151)).drew.below a6 (by rw[t6];exact D_ _));(obtain⟨z0,z1⟩:=kz.c2);(obtain⟨z2,z3⟩:=kz.f2);(have k7:=H_ (a_ kz (HA.o.trans (a6.mono (by omega)))));clear a6 kz))
                        all_goals (
                          go_wp2_with fail
                          go_meet
                          first
                            | exact ze8.a p4.o
                            | exact ze8.b k7.o.1 k7.o.2)
                      case rest=>
                        rename World=>wc
                        obtain⟨gp,rfl,HG⟩:=hcut;have a5:=H_ (HF.o.go HG.o.2.2);have g9:zdu (stepU a x m,stepU b y m):=⟨by show stepU a x m<1048576;omega,by show stepU b y m<1048576;omega⟩;have o0:(Instr.lookup 191 (.map (some (w.heap.size+2))) (.agg #[.int .i64 ((stepU a x m:Nat):Int),.int .i64 ((stepU b y m:Nat):Int)]) false).run prog wc=.ok (.bool (decide ((stepU a x m,stepU b y m)∈b6))) wc:=a5.o.fu.map.look g9;have kp:=HG.o.2.1;obtain⟨c0,c1⟩:=kp.c2;have u6:=HG.o.1;have x5:=HG.o.2.2.size;obtain⟨v8,x9⟩:=a5.o.fu.seen.few;cases a9:decide ((stepU a x m,stepU b y m)∈b6)
                        · obtain⟨wq,h8,o2,e4⟩:=a5.o.fu.map.put g9 (by omega)
                          (have y5:(Instr.mapUpdate 191 (.map (some (w.heap.size+2))) (.agg #[.int .i64 ((stepU a x m:Nat):Int),.int .i64 ((stepU b y m:Nat):Int)]) (.bool true)).run prog wc=.ok () wq:=h8;have j0:(stepU a x m,stepU b y m) ∉ b6:=by simpa using a9);(have s5:=H_ j0)
                          have i4:=H_ (show (b6++[(stepU a x m,stepU b y m)],fl++[((stepU a x m,stepU b y m),t++[(α:Int),16+(j:Int)])])=goW a b ((x,y),t) (goL a b (d8,[]) (l.take k)) (3*α+(j+1)) from by
                            have hg:=i3.o;have k4:=HM.o;rw[<-k4]at hg;have h:=zr2 hg j0;rw[show m/3=α by omega,show m%3=j by omega,show m+1=3*α+(j+1) by omega]at h;exact h)
                          (have m4:=H_ (a_ o2 e4);have g3:=zet e4;have y6:=e4.size;have KQ:=H_ (kp.past a5.o.fu.map g3);have i9:=H_ (a5.o.blk.past a5.o.fu.map g3);have m9:=H_ (zlz a4.o.1 Z.o.map (a5.o.fu.o.trans g3));have l6:=H_ (a5.o.fu.turn e4);have d4:=a5.o.ne;have r9:=H_ d4;have hfz:∀ u,(Value.slice fa fs fc).ownBlock=some u->u<wz.heap.size:=λu hu=>(HF.o.fu.ways.own.lt u hu).2);(have p9:=H_ hfz;have v5:=Z.o.below.size;have x6:=KQ.o.lt;have u7:=i9.o.lt;have s8:=H_ (a7.o.1.next c9);have y7:=a4.o.2;rw[a9]at o0;clear a9 j0 o2 e4 h8 kp HG HF g3 d4 hfz;have HS:Q_ (∀ w':World,Below wq wq w'->w'.cell? (p_ gp 0)=some (.int .i64 ((stepU a x m:Nat):Int))/\w'.cell? (p_ gp 1)=some (.int .i64 ((stepU b y m:Nat):Int))/\w'.cell? (p_ wx 2)=some (.slice sa t sc)):=H_ λw' d5=>⟨(KQ.o.below d5 KQ.o.lt).cell 0,(KQ.o.below d5 KQ.o.lt).cell 1,(i9.o.below d5 i9.o.lt).cell 2⟩);(obtain⟨d0,d1,d2⟩:=HS.o wq (B_ _ _);obtain⟨e0,e1,e2⟩:=HS.o wq.drew (z_ (B_ _ _));have y4:wq.drew.heap.size=wq.heap.size:=rfl;have o4:(wq.alloc (.cells #[.int .i64 (α:Nat),.int .i64 (16+(j:Int))] 3)).drew.heap.size=wq.heap.size+1:=μ _ _;obtain⟨g0,g1,g2⟩:=HS.o (wq.alloc (.cells #[.int .i64 (α:Nat),.int .i64 (16+(j:Int))] 3)).drew (z_ (ζ wq _));have n0:=H_ (m9.o.sl.below (z_ (B_ wq wq)) (by omega));have n3:=H_ (m9.o.sl.below (z_ (ζ wq (.cells #[.int .i64 (α:Nat),.int .i64 (16+(j:Int))] 3))) (by omega));have r6:Q_ (Sl 1 wq (wq+1) (wq.alloc (.cells #[.int .i64 (α:Nat),.int .i64 (16+(j:Int))] 3)).drew (.slice (q_ wq 0) 2 2) 2 [.int .i64 (α:Nat),.int .i64 (16+(j:Int))]):=H_ (zch (ς 1 3 wq [.int .i64 (α:Nat),.int .i64 (16+(j:Int))] 2 (by omega) rfl).sl (z_ (B_ (wq+1) _)) (le_ _)))
                          have m7:Q_ (∀ wA wB:World,Below wq wq wA->wA.grownBy wB (Value.slice fa fs fc).ownBlock->wB.cell? (p_ gp 0)=some (.int .i64 ((stepU a x m:Nat):Int))/\wB.cell? (p_ gp 1)=some (.int .i64 ((stepU b y m:Nat):Int))/\wB.cell? (p_ wx 2)=some (.slice sa t sc)):=H_ λwA wB hA hB=>by
                            (obtain⟨r0,r1,r2⟩:=HS.o wA hA;have u9:=hA.size;have n1:some gp≠(Value.slice fa fs fc).ownBlock:=λe=>by have:=p9.o gp e.symm;omega);(have n2:some wx.heap.size≠(Value.slice fa fs fc).ownBlock:=λe=>r9.o e.symm);exact⟨(hB.cell_far (p_ gp 0) (by show gp<_;omega) n1).trans r0,(hB.cell_far (p_ gp 1) (by show gp<_;omega) n1).trans r1,(hB.cell_far (p_ wx 2) (by show wx.heap.size<_;omega) n2).trans r2⟩
                          go_upto_region 30 with fail
                          go_region_held3 (λw'=>w'.cell? (p_ gp 0)=some (.int .i64 ((stepU a x m:Nat):Int))/\w'.cell? (p_ gp 1)=some (.int .i64 ((stepU b y m:Nat):Int))/\w'.cell? (p_ wx 2)=some (.slice sa t sc)) (first | with_reducible assumption | go_keep) (first
                            | (go_at_call 76;refine(zdo _ _ _ t wq.drew n0.o (by omega)).mono ?_;rintro n7 a1 ⟨p2,rfl,J,K⟩;(have f4:=J.size);(have a8:=H_ ((z_ (B_ wq wq)).trans (J.mono (le_ _))));obtain⟨h0,h1,h2⟩:=HS.o a1 a8.o;obtain⟨i0,i1,i2⟩:=HS.o (a1.alloc (.cells #[.int .i64 (α:Nat),.int .i64 (16+(j:Int))] 3)) (a8.o.trans ((ζ a1 _).mono f4));(have m1:=H_ (K.below (ζ a1 (.cells #[.int .i64 (α:Nat),.int .i64 (16+(j:Int))] 3)) (le_ _)));(have LA:Q_ (Sl 1 a1 (a1+1) (a1.alloc (.cells #[.int .i64 (α:Nat),.int .i64 (16+(j:Int))] 3)) (.slice (q_ a1 0) 2 2) 2 [.int .i64 (α:Nat),.int .i64 (16+(j:Int))]):=H_ (ς 1 3 a1 [.int .i64 (α:Nat),.int .i64 (16+(j:Int))] 2 (by omega) rfl).sl);obtain⟨ya,yc,rfl⟩:=η K;clear J K)
                            | (go_at_call 76;refine(zdo _ _ _ t ((wq.alloc (.cells #[.int .i64 (α:Nat),.int .i64 (16+(j:Int))] 3)).drew) n3.o (by omega)).mono ?_;rintro n7 a1 ⟨p2,rfl,J,K⟩;(have f4:=J.size);(have a8:=H_ ((z_ (ζ wq (.cells #[.int .i64 (α:Nat),.int .i64 (16+(j:Int))] 3))).trans (J.mono (by rw[o4];exact Nat.le_succ _))));obtain⟨h0,h1,h2⟩:=HS.o a1 a8.o;(have m2:=H_ K);(have LB:Q_ (Sl 1 wq (wq+1) a1 (.slice (q_ wq 0) 2 2) 2 [.int .i64 (α:Nat),.int .i64 (16+(j:Int))]):=H_ (r6.o.below J (by rw[o4];exact le_ _)));obtain⟨ya,yc,rfl⟩:=η K;clear J K)
                            | (refine zig (by rfl) _ _ 22 (by rfl) 3 (0:Int) 1 8 underlying22 ω (by rfl) (by decide) (by decide) (by rfl) m1.o (by rfl) LA.o (by intro u hu;simp only[N_,bj_,bx_] at hu;rcases hu with rfl | rfl<;>rfl) (by omega) (by omega) (by simp only[μ];omega) ?_;intro p3 E U b5 e5;(have I:=H_ (ε (a8.o.trans ((ζ a1 (.cells #[.int .i64 (α:Nat),.int .i64 (16+(j:Int))] 3)).mono (by omega))) (zb1 b5 m1.o.lt) (by omega) (by simp only[μ];omega)));(have m3:=H_ (γ.len (xs:=t++[(α:Int),16+(j:Int)]) (by rw[zaa];exact U) (by simp)));obtain⟨yb,a2,rfl⟩:=η U;obtain⟨k0,k1,k2⟩:=HS.o E I.o;obtain⟨l0,l1,l2⟩:=HS.o (E.alloc (.cells #[.int .i64 ((stepU a x m:Nat):Int),.int .i64 ((stepU b y m:Nat):Int),.slice yb (t.length+2) a2] 193)) (I.o.trans ((ζ E _).mono I.o.size));(have h9:=I.o.size);(have n6:Q_ (Sl 3 E (E+1) (E.alloc (.cells #[.int .i64 ((stepU a x m:Nat):Int),.int .i64 ((stepU b y m:Nat):Int),.slice yb (t.length+2) a2] 193)) (.slice (q_ E 0) 1 1) 1 [.int .i64 ((stepU a x m:Nat):Int),.int .i64 ((stepU b y m:Nat):Int),.slice yb (t.length+2) a2]):=H_ (ς 3 193 E [.int .i64 ((stepU a x m:Nat):Int),.int .i64 ((stepU b y m:Nat):Int),.slice yb (t.length+2) a2] 1 (by omega) rfl).sl);(have g8:=H_ ((l6.o.below I.o (le_ _)).own.below (ζ E (.cells #[.int .i64 ((stepU a x m:Nat):Int),.int .i64 ((stepU b y m:Nat):Int),.slice yb (t.length+2) a2] 193)) (by omega)));clear U b5 e5)
                            | (refine zig (by rfl) _ _ 22 (by rfl) 3 (0:Int) 1 8 underlying22 ω (by rfl) (by decide) (by decide) (by rfl) m2.o (by rfl) LB.o (by intro u hu;simp only[N_,bj_,bx_] at hu;rcases hu with rfl | rfl<;>rfl) (by omega) (by omega) (by omega) ?_;intro p3 E U b5 e5;(have I:=H_ (ε a8.o (zb1 b5 m2.o.lt) (by omega) (by omega)));(have m3:=H_ (γ.len (xs:=t++[(α:Int),16+(j:Int)]) (by rw[zaa];exact U) (by simp)));obtain⟨yb,a2,rfl⟩:=η U;obtain⟨k0,k1,k2⟩:=HS.o E I.o;obtain⟨l0,l1,l2⟩:=HS.o (E.alloc (.cells #[.int .i64 ((stepU a x m:Nat):Int),.int .i64 ((stepU b y m:Nat):Int),.slice yb (t.length+2) a2] 193)) (I.o.trans ((ζ E _).mono I.o.size));(have h9:=I.o.size);(have n6:Q_ (Sl 3 E (E+1) (E.alloc (.cells #[.int .i64 ((stepU a x m:Nat):Int),.int .i64 ((stepU b y m:Nat):Int),.slice yb (t.length+2) a2] 193)) (.slice (q_ E 0) 1 1) 1 [.int .i64 ((stepU a x m:Nat):Int),.int .i64 ((stepU b y m:Nat):Int),.slice yb (t.length+2) a2]):=H_ (ς 3 193 E [.int .i64 ((stepU a x m:Nat):Int),.int .i64 ((stepU b y m:Nat):Int),.slice yb (t.length+2) a2] 1 (by omega) rfl).sl);(have g8:=H_ ((l6.o.below I.o (le_ _)).own.below (ζ E (.cells #[.int .i64 ((stepU a x m:Nat):Int),.int .i64 ((stepU b y m:Nat):Int),.slice yb (t.length+2) a2] 193)) (by omega)));clear U b5 e5)
                            | (refine zig (by rfl) _ _ 194 (by rfl) 193 (.agg #[(0:Int),(0:Int),()]) 3 40 underlying194 zyq (by rfl) (by decide) (by decide) (by rfl) g8.o (by rfl) n6.o (by intro u hu;simp only[N_,bj_,bx_] at hu;rcases hu with rfl | rfl | rfl<;>rfl) (by omega) (by omega) (by simp only[μ];omega) ?_;intro z5 u5 e6 e3 h7;obtain⟨q0,q1,q2⟩:=m7.o _ u5 (I.o.trans ((ζ E (.cells #[.int .i64 ((stepU a x m:Nat):Int),.int .i64 ((stepU b y m:Nat):Int),.slice yb (t.length+2) a2] 193)).mono h9)) e3;obtain⟨yd,z6,rfl⟩:=η e6;(have l5:=H_ (FwI.push a5.o m4.o.2 m4.o.1 I.o (m3.o.lower (by omega) (le_ _)) (by simp;omega) e6 e3 h7 s5.o ⟨o5,o6⟩ s8.o));clear e6 e3 h7))
                          all_goals (
                            clear k0 k1 k2 l0 l1 l2 h0 h1 h2 d0 d1 d2 e0 e1 e2 g0 g1 g2 q0 q1 q2;go_wp2;go_roundw
                            (case rel=>exact⟨j+1,_,_,_,by omega,by go_num,l5,i4⟩);case measure=>simp[intOf];omega)
                        · have i4:=H_ (show (b6,fl)=goW a b ((x,y),t) (goL a b (d8,[]) (l.take k)) (3*α+(j+1)) from by
                            (have hg:=i3.o;have k4:=HM.o;rw[<-k4]at hg;have h:=zsm hg (show nextP a b (x,y) m∈b6 from av_ a9))
                            rwa [show m+1=3*α+(j+1) by omega]at h)
                          rw[a9]at o0;clear a9 kp HG HF;go_wp2;go_roundw
                          (case rel=>exact⟨j+1,fs,fl,b6,by omega,by go_num,a5,i4⟩);case measure=>simp[intOf];omega
                    · obtain rfl:j=3:=by omega
                      go_wp2;go_roundw
                      (case rel=>exact⟨α+1,fs,fl,b6,by omega,by go_num,HF,i3⟩);case measure=>simp[intOf];omega
                · obtain rfl:α=4:=by omega
                  (have p8:=H_ HF.o.fu;have r4:=H_ (show (o9,fl)=goL a b (d8,[]) (l.take (k+1)) from by rw[zqp f7.o,b4.o];exact l7.o);clear HF;go_wp2;go_roundw);(case rel=>exact⟨k+1,fs,fl,o9,by omega,by go_num,p8,r4⟩);case measure=>simp[intOf];omega
            · obtain rfl:k=ws.length:=by omega
              have r3:=H_ (show levGo a b 21 [(1,1)] [((1,1),[])]=levGo a b (21-(n+1)) k6 fl from by
                rw[f8.o];exact zss hlt i6.o (by rw[l8.o,f9.o,Y_]))
              (have s4:=H_ (show LvI a b w wx (.slice fa fs fc) (2*(n+1)) fs fl k6 from ⟨HF.o.ways.lower Z.o.below.size (le_ _) (by omega),HF.o.map,ε Z.o.below HF.o.o (by omega) Z.o.below.size,HF.o.seen⟩);clear HF;go_wp2;go_roundw);(case rel=>exact⟨n+1,fs,fl,k6,by omega,by go_num,s4,r3⟩);case measure=>simp[intOf];omega
    · obtain rfl:n=21:=by omega
      go_wp2;refine d_ (v:=.tuple #[(),.bool false]) (by simp[results,results139,go_sem]) rfl ?_;exact ι.mk _ rfl ⟨.inr ⟨f8.o,rfl⟩,HI.o.below⟩
end
theorem zso {e f:List Int}(h:okX e f ((pairsV e f).getD [])=false):equalV e f=if (differV e f).isSome then 0 else -1:=by
 unfold equalV
 split
 ·rename_i hk
  unfold okX at h;rw[hk]at h;simp only[Bool.and_true,Bool.not_eq_false',cy_,t_]at h;have hp:pairsV e f=none:=by unfold pairsV;rw[x_ h]
  rw[hp]at hk;have:=(okP_open hk).2.1;simp at this
 ·rfl
theorem z14 {e f:List Int}(h:okX e f ((pairsV e f).getD [])=true):equalV e f=1:=by
 unfold okX at h;simp only[j_]at h;unfold equalV;rw[x_ h.2]
theorem zrd(lo hi lo' hi':Nat)(ve vf:Value)(e f:List Int)(w:World)(hx:SlI lo hi w ve e)(hy:SlI lo' hi' w vf f)(hh:hi<=w)(b7:hi'<=w)(hm:e.length<=1048576)(b8:f.length<=1048576):
  Calls prog 91 #[ve,vf] w (ι (FtO (differV e f) w)):=by
 have HX:=H_ hx;have HY:=H_ hy;clear hx hy
 go_enter func91,ntmps91
 go_wp2_with fail
 refine(zmx _ _ _ _ _ _ e f w HX.o HY.o hh b7 hm b8).mono ?_;rintro e1 w1 ⟨r,rfl,v1,v2,v3,v4,ok,rfl,ha⟩;have c6:=ha.below.size;have J:=H_ ha;clear ha;obtain⟨⟨a1,n1,d1,rfl⟩,a2,n2,d2,rfl⟩:=J.o.tg.one.shape;obtain⟨⟨a3,n3,d3,rfl⟩,a4,n4,d4,rfl⟩:=J.o.tg.two.shape;have⟨w2,I⟩:=xa_ w1 #[.slice a1 n1 d1,.slice a2 n2 d2,.slice a3 n3 d3,.slice a4 n4 d4] 143;obtain⟨hb2,KT,hs2⟩:=Η I;have a5:=H_ (J.o.below.trans (hb2.mono c6));have a9:=H_ ((J.o.tg.below hb2 (le_ _)));have b3:=H_ KT;clear hb2 KT;cases ok
 ·have K:=H_ (show differV e f=none from by unfold differV pairsV;rw[x_ (J.o.shut rfl)];rfl)
  go_wp2;rw[<-I];refine d_ (v:=.tuple #[(),.bool false]) (by simp[results,results91,go_sem]) rfl ?_;exact ι.mk _ rfl ⟨.inr ⟨K.o,rfl⟩,a5.o⟩
 ·have b6:=H_ (show pairsV e f=pairsA (autV e) (autV f) from by unfold pairsV;rw[m_ (λh=>h.elim (J.o.open_ rfl).1 (J.o.open_ rfl).2)])
  go_wp2_with fail
  simp only[<-I];clear I;refine(zow _ _ _ _ _ _ _ _ w2 a9.o (by omega) (zbo e) (zbo f) (λ_=>True) trivial (λ_ _ _ _=>trivial)).mono ?_;rintro e3 w3 ⟨r,rfl,v,ok,ps,rfl,_,_,_,Z,_,E⟩;rw[<-b6.o]at Z;have a8:=H_ Z;clear Z;have c7:=E.size;have a6:=a5.tr E (by omega);have b5:=H_ (a9.o.below E (by omega));have k3:=b3.o.below E (by omega);obtain⟨c0,c1,c2,c3⟩:=k3.c4;clear E k3;cases ok
  ·have K:=H_ (show differV e f=none from by unfold differV;rw[a8.o];rfl)
   go_wp2;refine d_ (v:=.tuple #[(),.bool false]) (by simp[results,results91,go_sem]) rfl ?_;exact ι.mk _ rfl ⟨.inr ⟨K.o,rfl⟩,a6.o⟩
  ·have b2:=H_ (show differV e f=levGo (autV e) (autV f) 21 [(1,1)] [((1,1),[])] from by unfold differV;rw[a8.o];rfl)
   go_wp2_with fail
   refine(zu5 _ _ _ _ _ _ _ _ w3 b5.o (by omega) (zbo e) (zbo f)).mono ?_;rw[<-b2.o];rintro e4 w4 ⟨r,rfl,b9,U⟩;have a7:=a6.tr U (by omega);have c8:=U.size;clear U;rcases b9 with⟨t,b1,ht,rfl,b0,hl⟩|⟨hn,rfl⟩
   ·(have b4:=H_ (show γ w w4 3 w4 b1 t/\t.length<=64 from ⟨b0.lower (by omega) (le_ _),hl⟩));have HT:=H_ ht;clear b0 ht;go_wp2;refine d_ (v:=.tuple #[b1,.bool true]) (by simp[results,results91,go_sem]) rfl ?_;exact ι.mk _ rfl ⟨.inl ⟨_,_,HT.o,rfl,b4.o⟩,a7.o⟩
   ·(have HN:=H_ hn);clear hn;go_wp2;refine d_ (v:=.tuple #[(),.bool false]) (by simp[results,results91,go_sem]) rfl ?_;exact ι.mk _ rfl ⟨.inr ⟨HN.o,rfl⟩,a7.o⟩
theorem zz9(lo hi lo' hi':Nat)(ve vf:Value)(e f:List Int)(w:World)(hx:SlI lo hi w ve e)(hy:SlI lo' hi' w vf f)(hh:hi<=w)(U:hi'<=w)(hm:e.length<=1048576)(Z:f.length<=1048576):
  Calls prog 90 #[ve,vf] w λr w'=>r=.returned (.int .i64 (equalV e f))/\Below w w w':=by
 have HX:=H_ hx;have HY:=H_ hy;clear hx hy
 go_enter func90,ntmps90
 go_wp2_with fail
 refine(zvw _ _ _ _ _ _ e f w HX.o HY.o hh U hm Z).mono ?_;rintro e1 w1 ⟨vp,rfl,⟨ss,hp,a7,a4⟩,K⟩;have a6:=K.size;have HP:=H_ (a_ hp.sl a4);have I:=H_ K;clear hp a4 K;go_wp2_with fail
 refine(zud _ _ _ _ _ _ _ _ _ e f _ w1 (HX.o.below I.o hh) (HY.o.below I.o U) HP.o.1 (by omega) (by omega) (le_ _) hm Z _ rfl HP.o.2).mono ?_;rintro e2 w2 ⟨b,rfl,a3,hb2⟩;have a8:=hb2.size;have E:=I.tr hb2 a6;have J:=H_ a3;clear hb2 a3;cases b
 ·go_wp2_with fail
  refine(zrd _ _ _ _ _ _ e f w2 (HX.o.below E.o hh) (HY.o.below E.o U) (by omega) (by omega) hm Z).mono ?_;rintro e3 w3 ⟨r,rfl,a5,a2⟩;have a1:=E.tr a2 (by omega);clear a2;rcases a5 with⟨t,a9,ht,rfl,_,_⟩|⟨hn,rfl⟩
  ·have HE:Q_ (equalV e f=0):=H_ (by rw[zso J.o.symm,ht];rfl)
   clear ht;go_wp2;go_ret;exact⟨by rw[HE.o];rfl,a1.o⟩
  ·have HE:Q_ (equalV e f=-1):=H_ (by rw[zso J.o.symm,hn];rfl)
   clear hn;go_wp2;go_ret;exact⟨by rw[HE.o];rfl,a1.o⟩
 ·have HE:Q_ (equalV e f=1):=H_ (z14 J.o.symm)
  go_wp2;go_ret;exact⟨by rw[HE.o];rfl,E.o⟩
def zaw(t k:Nat):Int:=if t.testBit k then 1 else 0
theorem zq3(t k:Nat):zaw t k=0\/zaw t k=1:=by unfold zaw;split<;>simp
theorem z2c(t k:Nat):((t:Int)/2 ^ k).tmod 2=zaw t k:=by
 unfold zaw;rw[show ((t:Int)/2 ^ k)=((t/2 ^ k:Nat):Int) by push_cast;rfl,br_];have:=bg_ (t/2 ^ k);rw[show (((t/2 ^ k:Nat):Int).tmod 2)=((t/2 ^ k%2:Nat):Int) from by rw[Int.tmod_eq_emod_of_nonneg (Int.natCast_nonneg _)];rfl];rcases this with h|h<;>rw[h]<;>rfl
theorem zgs(t k:Nat)(E:t<1099511627776)(hk:k<=60)(w:World):Calls prog 109 #[.int .i64 t,.int .i64 k] w λe w'=>e=.returned (.int .i64 (zaw t k))/\w=w':=by
 have HB:=H_ (z2c t k)
 go_enter func109,ntmps109
 go_wp2;go_ret;exact⟨zdh HB.o,rfl⟩
theorem zs7(a b k:Nat):(((a &&& b)%2 ^ (k+1):Nat):Int)=(((a &&& b)%2 ^ k:Nat):Int)+zaw a k*zaw b k*2 ^ k:=by
 have h2:(a &&& b).testBit k=(a.testBit k&&b.testBit k):=Nat.testBit_and a b k
 have h5:(a &&& b)/2 ^ k%2=if a.testBit k&&b.testBit k then 1 else 0:=by
  rw[br_]at h2;have h6:=bg_ ((a &&& b)/2 ^ k);cases E:(a.testBit k&&b.testBit k)
  ·rw[E]at h2
   have:=bc_ h2;simp;omega
  ·rw[E]at h2
   have:=av_ h2;simp;omega
 rw[Nat.mod_pow_succ,h5];unfold zaw;cases a.testBit k<;>cases b.testBit k<;>simp
theorem zp5:∀ {k:Nat},k<21->wrap64 (2 ^ k)=((2 ^ k:Nat):Int):=by decide +kernel
theorem zpg(a b:Nat)(ha:a<1048576)(hb:b<1048576)(w:World):Calls prog 158 #[.int .i64 a,.int .i64 b] w λe w'=>e=.returned ((a &&& b:Nat):Int)/\w=w':=by
 go_enter func158,ntmps158
 go_wp2
 go_loop [5,6] (λo i=>∃ k:Nat,k<=20/\i=.int .i64 k/\o=.int .i64 (((a &&& b)%2 ^ k:Nat):Int)) (λ_ i=>20-(intOf i).toNat)
 case atStart=>exact⟨0,by omega,rfl,by rw[Nat.pow_zero,Nat.mod_one];rfl⟩
 case round=>
  obtain⟨k,hk,rfl,rfl⟩:=hrel;obtain⟨K,hK⟩:∃ K:Nat,K=2 ^ k:=⟨_,rfl⟩;have pw:=zp5 (k:=k) (by omega);have HS:=H_ (zs7 a b k);rw[<-hK]at pw HS;rw[<-hK];have⟨o,ho⟩:=ex_ ((a &&& b)%K);have a3:o<K:=by rw[ho,hK];exact eh_ _ (cz_ k)
  rw[<-ho];rw[<-ho]at HS
  have a2:o<1048576:=by
   rw[ho];exact c4_ (Nat.mod_le _ _) (c4_ do_ ha)
  have U:Q_ (a<K\/b<K->o=a &&& b):=H_ λh=>by
   rw[ho];have h1:a &&& b<=a:=do_;have h2:a &&& b<=b:=Nat.and_le_right;exact b4_ (by omega)
  have Z:K<=1048576:=by rw[hK];exact ah_ (n:=2) (by omega) (show k<=20 from hk)
  have E:Q_ (k=20->K=1048576):=H_ λh=>by rw[hK,h]
  have J:Q_ ((2:Int) ^ k=(K:Int)):=H_ (by rw[hK];push_cast;rfl);clear hK ho;by_cases h1:K<=a
  ·by_cases h2:K<=b
   ·have a1:k<20:=by
     rcases bi_ k 20 with h|h
     ·exact h
     ·(have:=E.o (by omega));omega
    go_wp2_with fail
    refine(zgs a k (by omega) (by omega) _).mono ?_;rintro e _ ⟨rfl,rfl⟩;rw[J.o]at HS;rcases zq3 a k with h3|h3<;>rw[h3] at HS ⊢
    all_goals
     clear h3;go_wp2_with fail
     refine(zgs b k (by omega) (by omega) _).mono ?_;rintro e _ ⟨rfl,rfl⟩;rcases zq3 b k with h4|h4<;>rw[h4] at HS ⊢
     all_goals
      clear h4;go_wp2;go_round
      (case rel=>exact⟨k+1,by omega,by go_num,by rw[HS.o];simp⟩);case measure=>simp[intOf];omega
   ·(have I:=H_ (U.o (by omega)));go_wp2;go_ret;exact⟨zdh (by rw[I.o]),rfl⟩
  ·have I:=H_ (U.o (by omega))
   go_wp2;go_ret;exact⟨zdh (by rw[I.o]),rfl⟩
end Go.Proofs.YtfnnhimopokpnaaGreatDoor
