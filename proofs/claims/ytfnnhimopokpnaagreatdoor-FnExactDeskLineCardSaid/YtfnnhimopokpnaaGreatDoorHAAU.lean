/- Lemmas for this seat; no condition. -/
import Derived.Test.YtfnnhimopokpnaaGreatDoorHAAT
namespace Go.Proofs.YtfnnhimopokpnaaGreatDoor
open Go.RowKit
set_option maxRecDepth 100000
set_option maxHeartbeats 0
set_option linter.unusedVariables false
section
set_option linter.unusedSimpArgs false
def FtO (o:Option (List Int)) (w:World) (r:Value) (w':World):Prop:=((∃ t v,o=some t∧r=.tuple #[v,.bool true]∧OwnI w.heap.size w'.heap.size 3 w' v t∧t.length≤64)∨(o=none∧r=.tuple #[.slice none 0 0,.bool false]))∧Below w.heap.size w w'
theorem lowBit_at {q α:Nat} (ha:α<4) (h:q.testBit α=true) (h0:∀ j,j<α→q.testBit j=false):lowBit q=some α:=by
 unfold lowBit
 rcases (show α=0∨α=1∨α=2∨α=3 by omega) with rfl|rfl|rfl|rfl
 ·simp [List.range,List.range.loop,List.find?,h]
 ·simp [List.range,List.range.loop,List.find?,h,h0 0 (by omega)]
 ·simp [List.range,List.range.loop,List.find?,h,h0 0 (by omega),h0 1 (by omega)]
 ·simp [List.range,List.range.loop,List.find?,h,h0 0 (by omega),h0 1 (by omega),h0 2 (by omega)]
theorem lowBit_not {q:Nat} (h0:∀ j,j<4→q.testBit j=false):lowBit q=none:=by
 unfold lowBit
 simp [List.range,List.range.loop,List.find?,h0 0 (by omega),h0 1 (by omega),h0 2 (by omega),h0 3 (by omega)]
theorem hitL_at {a b:Au} {l:List Way2} {k:Nat} (hk:k<l.length) {p:Nat × Nat} {t:List Int} (he:l[k]=(p,t)) {α:Nat} (hl:lowBit (apartP a b p)=some α):hitL a b (l.drop k)=some (t++[(α:Int)]):=by
 rw [List.drop_eq_getElem_cons hk,hitL,hitW,he,hl]
 rfl
theorem hitL_not {a b:Au} {l:List Way2} {k:Nat} (hk:k<l.length) {p:Nat × Nat} {t:List Int} (he:l[k]=(p,t)) (hl:lowBit (apartP a b p)=none):hitL a b (l.drop k)=hitL a b (l.drop (k+1)):=by
 rw [List.drop_eq_getElem_cons hk,hitL,hitW,he,hl]
 rfl
theorem goL_snoc (a b:Au) (w:Way2):∀ (l:List Way2) (s:List (Nat × Nat) × List Way2),goL a b s (l++[w])=goW a b w (goL a b s l) 12
 | [],s=>by simp only [List.nil_append,goL]
 | x :: l,s=>by
  rw [List.cons_append]
  simp only [goL]
  exact goL_snoc a b w l _
theorem goL_step {a b:Au} {l:List Way2} {k:Nat} (hk:k<l.length) (s:List (Nat × Nat) × List Way2):goL a b s (l.take (k+1))=goW a b l[k] (goL a b s (l.take k)) 12:=by
 rw [List.take_succ_eq_append_getElem hk,goL_snoc]
theorem levGo_hit {a b:Au} {n:Nat} (hn:n<21) {seen:List (Nat × Nat)} {l:List Way2} {t:List Int} (h:hitL a b l=some t):levGo a b (21-n) seen l=some t:=by
 rw [show 21-n=(21-(n+1))+1 by omega,levGo,h]
theorem levGo_next {a b:Au} {n:Nat} (hn:n<21) {seen:List (Nat × Nat)} {l:List Way2} (h:hitL a b l=none) {q:List (Nat × Nat)} {f:List Way2} (hq:(q,f)=goL a b (seen,[]) l):levGo a b (21-n) seen l=levGo a b (21-(n+1)) q f:=by
 rw [show 21-n=(21-(n+1))+1 by omega,levGo,h,←hq]
theorem goW_in {a b:Au} {w:Way2} {s:List (Nat × Nat) × List Way2} {m:Nat} {q:List (Nat × Nat)} {f:List Way2} (hs:(q,f)=goW a b w s m) (h:nextP a b w.1 m∈q):(q,f)=goW a b w s (m+1):=by
 rw [goW,←hs,if_pos h]
theorem goW_out {a b:Au} {w:Way2} {s:List (Nat × Nat) × List Way2} {m:Nat} {q:List (Nat × Nat)} {f:List Way2} (hs:(q,f)=goW a b w s m) (h:nextP a b w.1 m ∉ q):(q++[nextP a b w.1 m],f++[(nextP a b w.1 m,w.2++[((m/3:Nat):Int),16+((m%3:Nat):Int)])])=goW a b w s (m+1):=by
 rw [goW,←hs,if_neg h]
theorem firstTrace_any (lo hi:Nat) (v1 v2 v3 v4:Value) (a b:Au) (w:World) (h:TgS lo hi w v1 v2 v3 v4 a b) (hh:hi≤w.heap.size) (ha:AuOk a) (hb:AuOk b) :
    Calls Tryz.prog 139 #[.agg #[.int .i64 1,.int .i64 1],.func (.func 140) #[.agg #[v1,v2,v3,v4]] #[],.func (.func 141) #[.agg #[v1,v2,v3,v4]] #[]] w (RetV (FtO (levGo a b 21 [(1,1)] [((1,1),[])]) w)):=by
  obtain ⟨w0,hw0⟩:∃ w0,w0=w.alloc (.cells #[.int .i64 1,.int .i64 1] 151):=⟨_,rfl⟩
  obtain ⟨w1,hw1⟩:∃ w1,w1=w0.alloc (.cells #[.int .i64 1,.int .i64 1,.slice none 0 0] 193):=⟨_,rfl⟩
  obtain ⟨w2,hw2⟩:∃ w2,w2=w1.alloc (.map #[] 0):=⟨_,rfl⟩
  have b0:Below w.heap.size w w0:=by rw [hw0];exact al_below _ _
  have b1:Below w0.heap.size w0 w1:=by rw [hw1];exact al_below _ _
  have b2:Below w1.heap.size w1 w2:=by rw [hw2];exact al_below _ _
  have k0:Blk w.heap.size (.cells #[.int .i64 1,.int .i64 1] 151) w0:=by rw [hw0];exact Blk.new w _
  have s0:w0.heap.size=w.heap.size+1:=by rw [hw0];simp
  have s1:w1.heap.size=w.heap.size+2:=by rw [hw1];simp;omega
  have s2:w2.heap.size=w.heap.size+3:=by rw [hw2];simp;omega
  have k1:Own 3 (w.heap.size+1) (w.heap.size+2) 193 w1 (.slice (some ⟨w.heap.size+1,0,none⟩) 1 1) 1 (wys [((1,1),.slice none 0 0)]):=by
    have:=Own.lit 3 193 w0 (wys [((1,1),.slice none 0 0)]) 1 (by omega) rfl
    rw [s0] at this
    rw [hw1]
    exact this
  have k2:PM w2 (w.heap.size+2) []:=by rw [←s1,hw2];exact PM.made w1
  obtain ⟨w3,hr3,hp3,hg3⟩:=k2.put (p:=(1,1)) ⟨by decide,by decide⟩ (by simp)
  have hO3:=PM.grown hg3
  have s3:=hg3.size
  have HR3:=H_ hr3
  have HI : Hid (LvI a b w w3 (.slice (some ⟨w.heap.size + 1, 0, none⟩) 1 1) (2 * 0) [((1, 1), .slice none 0 0)] [((1, 1), [])] [(1, 1)]) := H_ ⟨⟨((k1.below b2 (by omega)).outside hO3 (by omega)).wide2 (by omega) (by omega), rfl, fun i h1 h2 => by
      obtain rfl:i=0:=by simp at h1;omega
      exact ⟨rfl,Own.nil _ _ _ _ _,by simp⟩⟩,hp3,Below.outside ((b0.trans (b1.mono (by omega))).trans (b2.mono (by omega))) hO3 (by omega) (by omega),⟨by simp,by simp,fun x hx=>by
      simp only [List.mem_singleton] at hx
      subst hx
      exact ⟨RchP.start a b,by decide,by decide⟩,by simp⟩⟩
  have HT:=H_ h
  have HAO:=H_ ha
  have HBO:=H_ hb
  have HK:=H_ (show w2.cell? ⟨w.heap.size,0,none⟩=some (.int .i64 1)∧w2.cell? ⟨w.heap.size,1,none⟩=some (.int .i64 1) from by
    have hk:=(k0.below b1 (by omega)).below b2 (by omega)
    exact ⟨hk.cell 0,hk.cell 1⟩)
  clear h ha hb b0 b1 b2 k0 k1 k2 hp3 hg3 hO3 hr3
  go_enter Tryz.func139,Tryz.ntmps139
  go_upto_region 2 with fail
  simp only [←hw0,←hw1]
  have hmk:(Instr.makeMap 191 none).run Tryz.prog w1=.ok (.map (some (w.heap.size+2))) w2:=by rw [←s1,hw2];rfl
  have k2a:=HK.out.1
  have k2b:=HK.out.2
  have hr3:(Instr.mapUpdate 191 (.map (some (w.heap.size+2))) (.agg #[.int .i64 1,.int .i64 1]) (.bool true)).run Tryz.prog w2=.ok () w3:=HR3.out
  clear hw0 hw1 hw2 HR3
  go_wp2
  clear hmk k2a k2b hr3 HK
  go_loopw [8,10] (fun lv i wr=>∃ (n:Nat) (ws:List ((Nat × Nat) × Value)) (l:List Way2) (qs:List (Nat × Nat)),n≤21∧i=.int .i64 n∧Hid (LvI a b w wr lv (2*n) ws l qs)∧Hid (levGo a b 21 [(1,1)] [((1,1),[])]=levGo a b (21-n) qs l)) (fun _ i _=>21-(intOf i).toNat)
  case atStart=>exact ⟨0,_,_,_,by omega,rfl,HI,H_ rfl⟩
  case round=>
    rename World=>wr
    clear HI
    obtain ⟨n,ws,l,qs,hn,rfl,HI,HLG⟩:=hrel
    have HLL:=H_ HI.out.ways.len
    obtain ⟨la,lc,rfl⟩:=Own.shape HI.out.ways.own
    obtain ⟨hw1,hq1⟩:=HI.out.seen.few
    by_cases hlt:n<21
    · have hdn:decide ((n:Int)≤20)=true:=by simp;omega
      go_wp2
      go_loopw [33] (fun i wx=>∃ k:Nat,k≤ws.length∧i=.int .i64 k∧Hid (Below wr.heap.size wr wx)∧Hid (hitL a b l=hitL a b (l.drop k))) (fun i _=>ws.length-(intOf i).toNat)
      case atStart=>exact ⟨0,by omega,rfl,H_ (B_ _ _),H_ rfl⟩
      case round=>
        rename World=>wx
        obtain ⟨k,hk,rfl,HX,HHL⟩:=hrel
        by_cases hltk:k<ws.length
        · obtain ⟨g4,rfl,_,_,hg4,c40,c41,c42⟩:=(HI.out.ways.below HX.out (le_ _)).get k hltk
          have HRW:=H_ (HI.out.seen.rch _ (List.getElem_mem hltk))
          have hkl:k<l.length:=by rw [←HLL.out];exact hltk
          obtain ⟨ht0,ht1,ht2⟩:=HI.out.ways.tr k hltk hkl
          obtain ⟨t,ht_⟩:∃ t,t=l[k].2:=⟨_,rfl⟩
          have HLK:=H_ (show l[k]=(ws[k].1,t) from Prod.ext ht0.symm ht_.symm)
          have HKL:=H_ hkl
          rw [←ht_] at ht1 ht2
          clear ht0 ht_
          have HTR:=H_ (And.intro ht1 ht2)
          clear ht1 ht2
          generalize ws[k]=q at c40 c41 c42 HRW HTR HLK
          obtain ⟨⟨x,y⟩,s⟩:=q
          simp only at c40 c41 c42 HRW HTR HLK
          obtain ⟨sa,sc,rfl⟩:=Own.shape HTR.out.1
          have hx:x<1048576:=by have:=HRW.out.2.1;omega
          have hy:y<1048576:=by have:=HRW.out.2.2;omega
          have ht1:t.length≤42:=by have:=HTR.out.2;omega
          obtain ⟨w5,hw5⟩:∃ w5,w5=wx.alloc (.cells #[.int .i64 (x:Nat),.int .i64 (y:Nat),.slice sa t.length sc] 193):=⟨_,rfl⟩
          obtain ⟨hb5,KP_,hs5⟩:=box_facts2 hw5
          have hzr:=HI.out.below.size
          have hzx:=HX.out.size
          have HT5:=H_ (((HT.out.below HI.out.below hh).below HX.out (by omega)).below hb5 (by omega))
          have HB5:=H_ (HX.out.trans (hb5.mono hzx))
          have KP:=H_ KP_
          have c0:=KP.out.cell 0
          have c1:=KP.out.cell 1
          rw [hw5] at c0 c1
          obtain ⟨q,hq⟩:∃ q,q=apartP a b (x,y):=⟨_,rfl⟩
          have HQP:=H_ hq
          have hq16:q<16:=by
            rw [hq]
            exact Nat.xor_lt_two_pow (n:=4) (HAO.out.endsLt x) (HBO.out.endsLt y)
          clear hq hb5 KP_
          go_wp2_with fail
          simp only [←hw5]
          refine (apart_any _ _ _ _ _ _ _ _ x y w5 HT5.out (by omega) HAO.out HBO.out hx hy).mono ?_
          rintro e8 w8 ⟨rfl,hb8⟩
          rw [←HQP.out]
          have hz8:=hb8.size
          have HB8:=H_ (HB5.out.trans (hb8.mono (by omega)))
          have KP8:=H_ (KP.out.below hb8 (by omega))
          clear hw5 c0 c1 c40 c41 c42 hb8 HT5 KP
          go_wp2
          go_loopw [41] (fun i wy=>∃ α:Nat,α≤4∧i=.int .i64 α∧Hid (Below w8.heap.size w8 wy)∧Hid (∀ j,j<α→q.testBit j=false)) (fun i _=>4-(intOf i).toNat)
          case atStart=>exact ⟨0,by omega,rfl,H_ (B_ _ _),H_ (fun j hj=>by omega)⟩
          case round=>
            rename World=>wy
            obtain ⟨α,hα,rfl,HY,HJ⟩:=hrel
            have hzy:=HY.out.size
            by_cases hlta:α<4
            · have hda:decide ((α:Int)<4)=true:=by simp;omega
              go_wp2_with fail
              refine (holds_any q α hq16 hlta wy).mono ?_
              rintro e9 _ ⟨rfl,rfl⟩
              rw [hb_bit]
              cases hbit:q.testBit α
              · have HJN:=H_ (show ∀ j,j<α+1→q.testBit j=false from fun j hj=>by
                  by_cases hja:j=α
                  · rw [hja];exact hbit
                  · exact HJ.out j (by omega))
                clear hbit
                go_wp2
                go_roundw
                case rel=>exact ⟨α+1,by omega,by go_num,HY,HJN⟩
                case measure=>simp [intOf];omega
              · have kp:=KP8.out.below HY.out KP8.out.lt
                have c2:=kp.cell 2
                have HBW:=H_ (HB8.out.trans (HY.out.mono (by omega)))
                have HRET:=H_ (show levGo a b 21 [(1,1)] [((1,1),[])]=some (t++[(α:Int)]) from by
                  rw [HLG.out]
                  exact levGo_hit hlt (HHL.out.trans (hitL_at HKL.out HLK.out (by rw [←HQP.out];exact lowBit_at hlta hbit HJ.out))))
                clear hbit kp
                go_wp2_with fail
                refine (cloneI_any _ _ _ t wy (HTR.out.1.sl.below HBW.out (le_ _)) (by omega)).mono ?_
                rintro e10 w10 ⟨v10,rfl,hb10,ho10⟩
                have hz10:=hb10.size
                have HBX:=H_ (HBW.out.trans (hb10.mono (by omega)))
                have HO10:=H_ ho10
                obtain ⟨ya,yc,rfl⟩:=Own.shape ho10
                clear hb10 ho10 c2
                go_wp2_with (at_builtin;go_loud (refine wpList_app_lit w10 rfl _ _ 22 rfl 3 (.int .i64 0) 1 8 Tryz.underlying22 info_int rfl (by decide) (by decide) rfl HO10.out 1 (ints [(α:Int)]) rfl rfl (ints_one _) rfl ?c1 ?c2 ?_))
                case c1=>omega
                case c2=>omega
                intro v11 w11 ho11 hout11 _
                obtain ⟨yb,ybc,rfl⟩:=Own.shape ho11
                have HOF:=H_ (show OwnI w.heap.size w11.heap.size 3 w11 (.slice yb (t.length+1) ybc) (t++[(α:Int)]) from (OwnI.len (xs:=t++[(α:Int)]) (by rw [ints_append];exact ho11) (by simp)).lower (by omega) (le_ _))
                have HBF:=H_ (HI.out.below.trans ((Below.outside HBX.out hout11 (by omega) (by omega)).mono hzr))
                clear ho11 hout11
                go_wp2
                refine bodyPost_ret (v:=.tuple #[.slice yb (t.length+1) ybc,.bool true]) (by simp [results,Tryz.results139,go_sem]) rfl ?_
                exact RetV.mk _ rfl ⟨.inl ⟨_,_,HRET.out,rfl,HOF.out,by simp;omega⟩,HBF.out⟩
            · obtain rfl:α=4:=by omega
              have HXF:=H_ (HB8.out.trans (HY.out.mono (by omega)))
              have HHN:=H_ (HHL.out.trans (hitL_not HKL.out HLK.out (by rw [←HQP.out];exact lowBit_not HJ.out)))
              clear HX
              go_wp2
              go_roundw
              case rel=>exact ⟨k+1,by omega,by go_num,HXF,HHN⟩
              case measure=>simp [intOf];omega
        · obtain rfl:k=ws.length:=by omega
          have HIS:=H_ (HI.out.go HX.out)
          have HHN:=H_ (show hitL a b l=none from by rw [HHL.out,List.drop_of_length_le (by rw [HLL.out];exact le_ _)];rfl)
          obtain ⟨wS,hwS⟩:∃ wS,wS=wx:=⟨_,rfl⟩
          rw [←hwS] at HIS ⊢
          clear hwS HI HX
          obtain ⟨qs0,hq0⟩:∃ q,q=qs:=⟨_,rfl⟩
          have HQ0:=H_ hq0
          rw [←hq0] at HLG
          clear hq0
          go_wp2
          go_loopw [15,57] (fun v i wx=>∃ (k:Nat) (fs:List ((Nat × Nat) × Value)) (fl:List Way2) (qs:List (Nat × Nat)),k≤ws.length∧i=.int .i64 k∧Hid (FuI a b (w.heap.size+2) wS wx v (2*n+2) fs fl qs)∧Hid ((qs,fl)=goL a b (qs0,[]) (l.take k))) (fun _ i _=>ws.length-(intOf i).toNat)
          case atStart=>exact ⟨0,[],[],qs,by omega,rfl,H_ ⟨WyL.nil _ _ _ _,HIS.out.map,Outside.refl _ _ _,HIS.out.seen.none⟩,H_ (by rw [HQ0.out];rfl)⟩
          case round=>
            rename World=>wx
            obtain ⟨k,fs,fl,qs2,hk,rfl,HF,HGL⟩:=hrel
            have hzx:=HF.out.out.size
            obtain ⟨fa,fc,rfl⟩:=Own.shape HF.out.ways.own
            by_cases hltk:k<ws.length
            · have HLW:=H_ (HF.out.seek HIS.out.ways HIS.out.map)
              obtain ⟨g4,rfl,_,_,hg4,c40,c41,c42⟩:=HLW.out.get k hltk
              have HRW:=H_ (HIS.out.seen.rch _ (List.getElem_mem hltk))
              have hkl:k<l.length:=by rw [←HLL.out];exact hltk
              obtain ⟨ht0,ht1,ht2⟩:=HIS.out.ways.tr k hltk hkl
              obtain ⟨t,ht_⟩:∃ t,t=l[k].2:=⟨_,rfl⟩
              have HLK:=H_ (show l[k]=(ws[k].1,t) from Prod.ext ht0.symm ht_.symm)
              have HKL:=H_ hkl
              rw [←ht_] at ht1 ht2
              clear ht0 ht_
              have HTR:=H_ (And.intro ht1 ht2)
              clear ht1 ht2
              generalize ws[k]=q at c40 c41 c42 HRW HTR HLK
              obtain ⟨⟨x,y⟩,s⟩:=q
              simp only at c40 c41 c42 HRW HTR HLK
              obtain ⟨sa,sc,rfl⟩:=Own.shape HTR.out.1
              have hx:x<1048576:=by have:=HRW.out.2.1;omega
              have hy:y<1048576:=by have:=HRW.out.2.2;omega
              have ht1:t.length≤42:=by have:=HTR.out.2;omega
              have HW5:=H_ (HF.out.beside #[.int .i64 (x:Nat),.int .i64 (y:Nat),.slice sa t.length sc])
              obtain ⟨w5,hw5⟩:∃ w5,w5=wx.alloc (.cells #[.int .i64 (x:Nat),.int .i64 (y:Nat),.slice sa t.length sc] 193):=⟨_,rfl⟩
              have hs5:wx.heap.size+1≤w5.heap.size:=by rw [hw5];simp
              rw [←hw5] at HW5
              go_wp2
              simp only [←hw5]
              clear hw5 c40 c41 c42 HF
              go_loopw [15,61] (fun v i wy=>∃ (α:Nat) (fs:List ((Nat × Nat) × Value)) (fl:List Way2) (qs:List (Nat × Nat)),α≤4∧i=.int .i64 α∧Hid (FwI a b (w.heap.size+2) wS wx.heap.size #[.int .i64 (x:Nat),.int .i64 (y:Nat),.slice sa t.length sc] wy v (2*n+2) fs fl qs)∧Hid ((qs,fl)=goW a b ((x,y),t) (goL a b (qs0,[]) (l.take k)) (3*α))) (fun _ i _=>4-(intOf i).toNat)
              case atStart=>exact ⟨0,_,_,_,by omega,rfl,HW5,HGL⟩
              case round=>
                rename World=>wy
                clear HW5
                obtain ⟨α,fs,fl,qs3,hα,rfl,HF,HGA⟩:=hrel
                obtain ⟨fa,fc,rfl⟩:=Own.shape HF.out.fu.ways.own
                by_cases hlta:α<4
                · have hda:decide ((α:Int)<4)=true:=by simp;omega
                  go_wp2
                  go_loopw [15,19] (fun v i wz=>∃ (j:Nat) (fs:List ((Nat × Nat) × Value)) (fl:List Way2) (qs:List (Nat × Nat)),j≤3∧i=.int .i64 (16+(j:Int))∧Hid (FwI a b (w.heap.size+2) wS wx.heap.size #[.int .i64 (x:Nat),.int .i64 (y:Nat),.slice sa t.length sc] wz v (2*n+2) fs fl qs)∧Hid ((qs,fl)=goW a b ((x,y),t) (goL a b (qs0,[]) (l.take k)) (3*α+j))) (fun _ i _=>19-(intOf i).toNat)
                  case atStart=>exact ⟨0,_,_,_,by omega,rfl,HF,HGA⟩
                  case round=>
                    rename World=>wz
                    clear HF
                    obtain ⟨j,fs,fl,qs4,hj,rfl,HF,HGJ⟩:=hrel
                    obtain ⟨fa,fc,rfl⟩:=Own.shape HF.out.fu.ways.own
                    by_cases hltj:j<3
                    · have hdj:decide ((16:Int)+(j:Int)≤18)=true:=by simp;omega
                      obtain ⟨m,hm⟩:∃ m,m=3*α+j:=⟨_,rfl⟩
                      have hm12:m<12:=by omega
                      have HM:=H_ hm
                      clear hm
                      have hzz:=HF.out.fu.out.size
                      have HTZ:=H_ ((HT.out.below HIS.out.below hh).outside HF.out.fu.out (.inl (by omega)))
                      have HNX:Hid (∀ w':World,Below wz.heap.size wz w'→Calls Tryz.prog 140 #[.agg #[v1,v2,v3,v4],.agg #[.int .i64 (x:Nat),.int .i64 (y:Nat)],.int .i64 (m:Nat)] w' fun e w''=>e=.returned (.agg #[.int .i64 ((stepU a x m:Nat):Int),.int .i64 ((stepU b y m:Nat):Int)])∧Below w'.heap.size w' w''):=H_ fun w' hb'=>next_any lo hi v1 v2 v3 v4 a b x y m w' (HTZ.out.below hb' (by have:=HIS.out.below.size;omega)) (by have:=hb'.size;have:=HIS.out.below.size;omega) HAO.out HBO.out hx hy hm12
                      have HMV:Hid (∀ w':World,Calls Tryz.prog 181 #[.int .i64 α,.int .i64 (16+(j:Int))] w' fun e w''=>e=.returned (.int .i64 (m:Nat))∧w'=w''):=H_ fun w'=>(move_any α (16+(j:Int)) w' hlta (by omega) (by omega)).mono (by
                        rintro e w'' ⟨rfl,h⟩
                        refine ⟨?_,h⟩
                        have hm:=HM.out
                        rw [show 3*(α:Int)+(16+(j:Int))-16=(m:Nat) by omega])
                      have hsm1:stepU a x m<1024:=HAO.out.step x hm12
                      have hsm2:stepU b y m<1024:=HBO.out.step y hm12
                      have hkl:=HF.out.blk.lt
                      go_upto_region 27 with fail
                      go_cut [20] (fun pv wv=>GotP wz (.int .i64 ((stepU a x m:Nat):Int)) (.int .i64 ((stepU b y m:Nat):Int)) pv wv)
                      case first=>
                        have hbd:Below wz.heap.size wz wz.drew:=Below.drew (B_ _ _)
                        have hba:Below wz.heap.size wz (wz.alloc (.cells #[.int .i64 0,.int .i64 0] 151)).drew:=Below.drew (al_below wz _)
                        have hmm:wz.drew.heap.size=wz.heap.size:=rfl
                        have hma:(wz.alloc (.cells #[.int .i64 0,.int .i64 0] 151)).drew.heap.size=wz.heap.size+1:=alloc_size _ _
                        have t0:=HF.out.blk.drew.cell 0
                        have t1:=HF.out.blk.drew.cell 1
                        have u0:(wz.alloc (.cells #[.int .i64 0,.int .i64 0] 151)).drew.cell? ⟨wx.heap.size,0,none⟩=_:=HF.out.blk.al.cell 0
                        have u1:(wz.alloc (.cells #[.int .i64 0,.int .i64 0] 151)).drew.cell? ⟨wx.heap.size,1,none⟩=_:=HF.out.blk.al.cell 1
                        have HA:=H_ hba
                        clear hba
                        go_region_law (first
                          | (go_simp;go_at_call 181;refine (HMV.out _).mono ?_;rintro e0 _ ⟨rfl,rfl⟩)
                          | (go_simp;go_at_call 140;refine (HNX.out wz.drew hbd).mono ?_;rintro e1 w6 ⟨rfl,hb1_⟩;(have hb1:Below wz.heap.size wz w6:=hbd.trans (hb1_.mono (le_ _)));(have hz1:=hb1.size);(have HB1:=H_ hb1);(have kz:=Blk.new w6 (.cells #[.int .i64 0,.int .i64 0] 151));(have z0:=kz.cell 0);(have z1:=kz.cell 1);(have z2:=kz.free 0);(have z3:=kz.free 1);clear hb1_ hb1 kz)
                          | (go_simp;go_at_call 140;refine (HNX.out ((wz.alloc (.cells #[.int .i64 0,.int .i64 0] 151)).drew) HA.out).mono ?_;rintro e1 w6 ⟨rfl,hb1_⟩;(have hz1:=hb1_.size);(have kz:Blk wz.heap.size (.cells #[.int .i64 0,.int .i64 0] 151) w6:=(Blk.new wz (.cells #[.int .i64 0,.int .i64 0] 151)).drew.below hb1_ (by rw [hma];exact Nat.lt_succ_self _));(have z0:=kz.cell 0);(have z1:=kz.cell 1);(have z2:=kz.free 0);(have z3:=kz.free 1);(have HB2:=H_ (And.intro kz (HA.out.trans (hb1_.mono (by omega)))));clear hb1_ kz))
                        all_goals (
                          go_wp2_with fail
                          go_meet
                          first
                            | exact GotP.a HB1.out
                            | exact GotP.b HB2.out.1 HB2.out.2)
                      case rest=>
                        rename World=>wc
                        obtain ⟨gp,rfl,HG⟩:=hcut
                        have HFC:=H_ (HF.out.go HG.out.2.2)
                        have hfit:FitP (stepU a x m,stepU b y m):=⟨by show stepU a x m<1048576;omega,by show stepU b y m<1048576;omega⟩
                        have hlk:(Instr.lookup 191 (.map (some (w.heap.size+2))) (.agg #[.int .i64 ((stepU a x m:Nat):Int),.int .i64 ((stepU b y m:Nat):Int)]) false).run Tryz.prog wc=.ok (.bool (decide ((stepU a x m,stepU b y m)∈qs4))) wc:=HFC.out.fu.map.look hfit
                        have kp:=HG.out.2.1
                        have c0:=kp.cell 0
                        have c1:=kp.cell 1
                        have hgp2:=HG.out.1
                        have hgz:=HG.out.2.2.size
                        obtain ⟨hf4,hq4⟩:=HFC.out.fu.seen.few
                        cases hmem:decide ((stepU a x m,stepU b y m)∈qs4)
                        · obtain ⟨wq,hrq_,hpq,hgq⟩:=HFC.out.fu.map.put hfit (by omega)
                          have hrq:(Instr.mapUpdate 191 (.map (some (w.heap.size+2))) (.agg #[.int .i64 ((stepU a x m:Nat):Int),.int .i64 ((stepU b y m:Nat):Int)]) (.bool true)).run Tryz.prog wc=.ok () wq:=hrq_
                          have hNM:(stepU a x m,stepU b y m) ∉ qs4:=by simpa using hmem
                          have HNM:=H_ hNM
                          have HGN:=H_ (show (qs4++[(stepU a x m,stepU b y m)],fl++[((stepU a x m,stepU b y m),t++[(α:Int),16+(j:Int)])])=goW a b ((x,y),t) (goL a b (qs0,[]) (l.take k)) (3*α+(j+1)) from by
                            have hg:=HGJ.out
                            have hm3:=HM.out
                            rw [←hm3] at hg
                            have h:=goW_out hg hNM
                            rw [show m/3=α by omega,show m%3=j by omega,show m+1=3*α+(j+1) by omega] at h
                            exact h)
                          have HPQ:=H_ (And.intro hpq hgq)
                          have hOq:=PM.grown hgq
                          have hsq:=hgq.size
                          have KQ:=H_ (kp.past HFC.out.fu.map hOq)
                          have K17:=H_ (HFC.out.blk.past HFC.out.fu.map hOq)
                          have HTQ:=H_ (own_past HTR.out.1 HIS.out.map (HFC.out.fu.out.trans hOq))
                          have HFQ:=H_ (HFC.out.fu.turn hgq)
                          have hown17:=HFC.out.ne
                          have HNE:=H_ hown17
                          have hfz:∀ u,(Value.slice fa fs.length fc).ownBlock=some u→u<wz.heap.size:=fun u hu=>(HF.out.fu.ways.own.lt u hu).2
                          have HFZ:=H_ hfz
                          have hSS:=HIS.out.below.size
                          have hkp:=KQ.out.lt
                          have hk17:=K17.out.lt
                          have HRN:=H_ (HRW.out.1.next hm12)
                          have htn:=HTR.out.2
                          rw [hmem] at hlk
                          clear hmem hNM hpq hgq hrq_ kp HG HF hOq hown17 hfz
                          have HS:Hid (∀ w':World,Below wq.heap.size wq w'→w'.cell? ⟨gp,0,none⟩=some (.int .i64 ((stepU a x m:Nat):Int))∧w'.cell? ⟨gp,1,none⟩=some (.int .i64 ((stepU b y m:Nat):Int))∧w'.cell? ⟨wx.heap.size,2,none⟩=some (.slice sa t.length sc)):=H_ fun w' hb'=>⟨(KQ.out.below hb' KQ.out.lt).cell 0,(KQ.out.below hb' KQ.out.lt).cell 1,(K17.out.below hb' K17.out.lt).cell 2⟩
                          obtain ⟨d0,d1,d2⟩:=HS.out wq (B_ _ _)
                          obtain ⟨e0,e1,e2⟩:=HS.out wq.drew (Below.drew (B_ _ _))
                          have hqd:wq.drew.heap.size=wq.heap.size:=rfl
                          have hql:(wq.alloc (.cells #[.int .i64 (α:Nat),.int .i64 (16+(j:Int))] 3)).drew.heap.size=wq.heap.size+1:=alloc_size _ _
                          obtain ⟨g0,g1,g2⟩:=HS.out (wq.alloc (.cells #[.int .i64 (α:Nat),.int .i64 (16+(j:Int))] 3)).drew (Below.drew (al_below wq _))
                          have HTQD:=H_ (HTQ.out.sl.below (Below.drew (B_ wq.heap.size wq)) (by omega))
                          have HTQL:=H_ (HTQ.out.sl.below (Below.drew (al_below wq (.cells #[.int .i64 (α:Nat),.int .i64 (16+(j:Int))] 3))) (by omega))
                          have HLQ:Hid (Sl 1 wq.heap.size (wq.heap.size+1) (wq.alloc (.cells #[.int .i64 (α:Nat),.int .i64 (16+(j:Int))] 3)).drew (.slice (some ⟨wq.heap.size,0,none⟩) 2 2) 2 [.int .i64 (α:Nat),.int .i64 (16+(j:Int))]):=H_ (Sl.below (Own.lit 1 3 wq [.int .i64 (α:Nat),.int .i64 (16+(j:Int))] 2 (by omega) rfl).sl (Below.drew (B_ (wq.heap.size+1) _)) (le_ _))
                          have HS12:Hid (∀ wA wB:World,Below wq.heap.size wq wA→wA.grownBy wB (Value.slice fa fs.length fc).ownBlock→wB.cell? ⟨gp,0,none⟩=some (.int .i64 ((stepU a x m:Nat):Int))∧wB.cell? ⟨gp,1,none⟩=some (.int .i64 ((stepU b y m:Nat):Int))∧wB.cell? ⟨wx.heap.size,2,none⟩=some (.slice sa t.length sc)):=H_ fun wA wB hA hB=>by
                            obtain ⟨r0,r1,r2⟩:=HS.out wA hA
                            have hAz:=hA.size
                            have n1:some gp≠(Value.slice fa fs.length fc).ownBlock:=fun e=>by have:=HFZ.out gp e.symm;omega
                            have n2:some wx.heap.size≠(Value.slice fa fs.length fc).ownBlock:=fun e=>HNE.out e.symm
                            exact ⟨(hB.cell_far ⟨gp,0,none⟩ (by show gp<_;omega) n1).trans r0,(hB.cell_far ⟨gp,1,none⟩ (by show gp<_;omega) n1).trans r1,(hB.cell_far ⟨wx.heap.size,2,none⟩ (by show wx.heap.size<_;omega) n2).trans r2⟩
                          go_upto_region 30 with fail
                          go_region_held3 (fun w'=>w'.cell? ⟨gp,0,none⟩=some (.int .i64 ((stepU a x m:Nat):Int))∧w'.cell? ⟨gp,1,none⟩=some (.int .i64 ((stepU b y m:Nat):Int))∧w'.cell? ⟨wx.heap.size,2,none⟩=some (.slice sa t.length sc)) (first | with_reducible assumption | go_keep) (first
                            | (go_at_call 76;refine (cloneI_any _ _ _ t wq.drew HTQD.out (by omega)).mono ?_;rintro e10 w10 ⟨v10,rfl,hb10_,ho10⟩;(have hz10:=hb10_.size);(have HB10:=H_ ((Below.drew (B_ wq.heap.size wq)).trans (hb10_.mono (le_ _))));obtain ⟨h0,h1,h2⟩:=HS.out w10 HB10.out;obtain ⟨i0,i1,i2⟩:=HS.out (w10.alloc (.cells #[.int .i64 (α:Nat),.int .i64 (16+(j:Int))] 3)) (HB10.out.trans ((al_below w10 _).mono hz10));(have HOA:=H_ (ho10.below (al_below w10 (.cells #[.int .i64 (α:Nat),.int .i64 (16+(j:Int))] 3)) (le_ _)));(have LA:Hid (Sl 1 w10.heap.size (w10.heap.size+1) (w10.alloc (.cells #[.int .i64 (α:Nat),.int .i64 (16+(j:Int))] 3)) (.slice (some ⟨w10.heap.size,0,none⟩) 2 2) 2 [.int .i64 (α:Nat),.int .i64 (16+(j:Int))]):=H_ (Own.lit 1 3 w10 [.int .i64 (α:Nat),.int .i64 (16+(j:Int))] 2 (by omega) rfl).sl);obtain ⟨ya,yc,rfl⟩:=Own.shape ho10;clear hb10_ ho10)
                            | (go_at_call 76;refine (cloneI_any _ _ _ t ((wq.alloc (.cells #[.int .i64 (α:Nat),.int .i64 (16+(j:Int))] 3)).drew) HTQL.out (by omega)).mono ?_;rintro e10 w10 ⟨v10,rfl,hb10_,ho10⟩;(have hz10:=hb10_.size);(have HB10:=H_ ((Below.drew (al_below wq (.cells #[.int .i64 (α:Nat),.int .i64 (16+(j:Int))] 3))).trans (hb10_.mono (by rw [hql];exact Nat.le_succ _))));obtain ⟨h0,h1,h2⟩:=HS.out w10 HB10.out;(have HOB:=H_ ho10);(have LB:Hid (Sl 1 wq.heap.size (wq.heap.size+1) w10 (.slice (some ⟨wq.heap.size,0,none⟩) 2 2) 2 [.int .i64 (α:Nat),.int .i64 (16+(j:Int))]):=H_ (HLQ.out.below hb10_ (by rw [hql];exact le_ _)));obtain ⟨ya,yc,rfl⟩:=Own.shape ho10;clear hb10_ ho10)
                            | (refine step_app_at (by rfl) _ _ 22 (by rfl) 3 (.int .i64 0) 1 8 Tryz.underlying22 info_int (by rfl) (by decide) (by decide) (by rfl) HOA.out (by rfl) LA.out (by intro u hu;simp only [List.mem_cons,List.not_mem_nil,or_false] at hu;rcases hu with rfl | rfl<;>rfl) (by omega) (by omega) (by simp only [alloc_size];omega) ?_;intro v11 w11 ho11 hg11 hl11;(have HB11:=H_ (Below.outside (HB10.out.trans ((al_below w10 (.cells #[.int .i64 (α:Nat),.int .i64 (16+(j:Int))] 3)).mono (by omega))) (grown_outside hg11 HOA.out.lt) (by omega) (by simp only [alloc_size];omega)));(have HOT:=H_ (OwnI.len (xs:=t++[(α:Int),16+(j:Int)]) (by rw [ints_append];exact ho11) (by simp)));obtain ⟨yb,ybc,rfl⟩:=Own.shape ho11;obtain ⟨k0,k1,k2⟩:=HS.out w11 HB11.out;obtain ⟨l0,l1,l2⟩:=HS.out (w11.alloc (.cells #[.int .i64 ((stepU a x m:Nat):Int),.int .i64 ((stepU b y m:Nat):Int),.slice yb (t.length+2) ybc] 193)) (HB11.out.trans ((al_below w11 _).mono HB11.out.size));(have hz11:=HB11.out.size);(have L11:Hid (Sl 3 w11.heap.size (w11.heap.size+1) (w11.alloc (.cells #[.int .i64 ((stepU a x m:Nat):Int),.int .i64 ((stepU b y m:Nat):Int),.slice yb (t.length+2) ybc] 193)) (.slice (some ⟨w11.heap.size,0,none⟩) 1 1) 1 [.int .i64 ((stepU a x m:Nat):Int),.int .i64 ((stepU b y m:Nat):Int),.slice yb (t.length+2) ybc]):=H_ (Own.lit 3 193 w11 [.int .i64 ((stepU a x m:Nat):Int),.int .i64 ((stepU b y m:Nat):Int),.slice yb (t.length+2) ybc] 1 (by omega) rfl).sl);(have HE11:=H_ ((HFQ.out.below HB11.out (le_ _)).own.below (al_below w11 (.cells #[.int .i64 ((stepU a x m:Nat):Int),.int .i64 ((stepU b y m:Nat):Int),.slice yb (t.length+2) ybc] 193)) (by omega)));clear ho11 hg11 hl11)
                            | (refine step_app_at (by rfl) _ _ 22 (by rfl) 3 (.int .i64 0) 1 8 Tryz.underlying22 info_int (by rfl) (by decide) (by decide) (by rfl) HOB.out (by rfl) LB.out (by intro u hu;simp only [List.mem_cons,List.not_mem_nil,or_false] at hu;rcases hu with rfl | rfl<;>rfl) (by omega) (by omega) (by omega) ?_;intro v11 w11 ho11 hg11 hl11;(have HB11:=H_ (Below.outside HB10.out (grown_outside hg11 HOB.out.lt) (by omega) (by omega)));(have HOT:=H_ (OwnI.len (xs:=t++[(α:Int),16+(j:Int)]) (by rw [ints_append];exact ho11) (by simp)));obtain ⟨yb,ybc,rfl⟩:=Own.shape ho11;obtain ⟨k0,k1,k2⟩:=HS.out w11 HB11.out;obtain ⟨l0,l1,l2⟩:=HS.out (w11.alloc (.cells #[.int .i64 ((stepU a x m:Nat):Int),.int .i64 ((stepU b y m:Nat):Int),.slice yb (t.length+2) ybc] 193)) (HB11.out.trans ((al_below w11 _).mono HB11.out.size));(have hz11:=HB11.out.size);(have L11:Hid (Sl 3 w11.heap.size (w11.heap.size+1) (w11.alloc (.cells #[.int .i64 ((stepU a x m:Nat):Int),.int .i64 ((stepU b y m:Nat):Int),.slice yb (t.length+2) ybc] 193)) (.slice (some ⟨w11.heap.size,0,none⟩) 1 1) 1 [.int .i64 ((stepU a x m:Nat):Int),.int .i64 ((stepU b y m:Nat):Int),.slice yb (t.length+2) ybc]):=H_ (Own.lit 3 193 w11 [.int .i64 ((stepU a x m:Nat):Int),.int .i64 ((stepU b y m:Nat):Int),.slice yb (t.length+2) ybc] 1 (by omega) rfl).sl);(have HE11:=H_ ((HFQ.out.below HB11.out (le_ _)).own.below (al_below w11 (.cells #[.int .i64 ((stepU a x m:Nat):Int),.int .i64 ((stepU b y m:Nat):Int),.slice yb (t.length+2) ybc] 193)) (by omega)));clear ho11 hg11 hl11)
                            | (refine step_app_at (by rfl) _ _ 194 (by rfl) 193 (.agg #[.int .i64 0,.int .i64 0,.slice none 0 0]) 3 40 Tryz.underlying194 info_way (by rfl) (by decide) (by decide) (by rfl) HE11.out (by rfl) L11.out (by intro u hu;simp only [List.mem_cons,List.not_mem_nil,or_false] at hu;rcases hu with rfl | rfl | rfl<;>rfl) (by omega) (by omega) (by simp only [alloc_size];omega) ?_;intro v12 w12 ho12 hg12 hl12;obtain ⟨q0,q1,q2⟩:=HS12.out _ w12 (HB11.out.trans ((al_below w11 (.cells #[.int .i64 ((stepU a x m:Nat):Int),.int .i64 ((stepU b y m:Nat):Int),.slice yb (t.length+2) ybc] 193)).mono hz11)) hg12;obtain ⟨yd,ydc,rfl⟩:=Own.shape ho12;(have HF12:=H_ (FwI.push HFC.out HPQ.out.2 HPQ.out.1 HB11.out (HOT.out.lower (by omega) (le_ _)) (by simp;omega) ho12 hg12 hl12 HNM.out ⟨hsm1,hsm2⟩ HRN.out));clear ho12 hg12 hl12))
                          all_goals (
                            clear k0 k1 k2 l0 l1 l2 h0 h1 h2 d0 d1 d2 e0 e1 e2 g0 g1 g2 q0 q1 q2
                            go_wp2
                            go_roundw
                            case rel=>exact ⟨j+1,_,_,_,by omega,by go_num,HF12,HGN⟩
                            case measure=>simp [intOf];omega)
                        · have HGN:=H_ (show (qs4,fl)=goW a b ((x,y),t) (goL a b (qs0,[]) (l.take k)) (3*α+(j+1)) from by
                            have hg:=HGJ.out
                            have hm3:=HM.out
                            rw [←hm3] at hg
                            have h:=goW_in hg (show nextP a b (x,y) m∈qs4 from of_decide_eq_true hmem)
                            rwa [show m+1=3*α+(j+1) by omega] at h)
                          rw [hmem] at hlk
                          clear hmem kp HG HF
                          go_wp2
                          go_roundw
                          case rel=>exact ⟨j+1,fs,fl,qs4,by omega,by go_num,HFC,HGN⟩
                          case measure=>simp [intOf];omega
                    · obtain rfl:j=3:=by omega
                      go_wp2
                      go_roundw
                      case rel=>exact ⟨α+1,fs,fl,qs4,by omega,by go_num,HF,HGJ⟩
                      case measure=>simp [intOf];omega
                · obtain rfl:α=4:=by omega
                  have HFU:=H_ HF.out.fu
                  have HGK:=H_ (show (qs3,fl)=goL a b (qs0,[]) (l.take (k+1)) from by rw [goL_step HKL.out,HLK.out];exact HGA.out)
                  clear HF
                  go_wp2
                  go_roundw
                  case rel=>exact ⟨k+1,fs,fl,qs3,by omega,by go_num,HFU,HGK⟩
                  case measure=>simp [intOf];omega
            · obtain rfl:k=ws.length:=by omega
              have HGE:=H_ (show levGo a b 21 [(1,1)] [((1,1),[])]=levGo a b (21-(n+1)) qs2 fl from by
                rw [HLG.out]
                exact levGo_next hlt HHN.out (by rw [HGL.out,HLL.out,List.take_length]))
              have HNF:=H_ (show LvI a b w wx (.slice fa fs.length fc) (2*(n+1)) fs fl qs2 from ⟨HF.out.ways.lower HIS.out.below.size (le_ _) (by omega),HF.out.map,Below.outside HIS.out.below HF.out.out (by omega) HIS.out.below.size,HF.out.seen⟩)
              clear HF
              go_wp2
              go_roundw
              case rel=>exact ⟨n+1,fs,fl,qs2,by omega,by go_num,HNF,HGE⟩
              case measure=>simp [intOf];omega
    · obtain rfl:n=21:=by omega
      go_wp2
      refine bodyPost_ret (v:=.tuple #[.slice none 0 0,.bool false]) (by simp [results,Tryz.results139,go_sem]) rfl ?_
      exact RetV.mk _ rfl ⟨.inr ⟨HLG.out,rfl⟩,HI.out.below⟩
end
end Go.Proofs.YtfnnhimopokpnaaGreatDoor
