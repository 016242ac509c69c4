/- Lemmas for this seat; no condition. -/
import Derived.Test.YtfnnhimopokpnaaGreatDoorHAAZ
namespace Go.Proofs.YtfnnhimopokpnaaGreatDoor
open Go.RowKit
set_option maxRecDepth 100000
set_option maxHeartbeats 0
set_option linter.unusedVariables false
theorem has_step {x:List Int} {l:List (List Int)} {k:Nat} (hk:k<l.length) (h:x ∉ l.take k) (he:l[k]≠x):x ∉ l.take (k+1):=by
 rw [List.take_succ_eq_append_getElem hk,List.mem_append,List.mem_singleton]
 rintro (h1|h1)
 ·exact h h1
 ·exact he h1.symm
theorem l4Has_any (lo hi lo' hi':Nat) (v vx:Value) (xss:List (List Int)) (x:List Int) (w:World) (hl:SlLL lo hi w v xss) (hx:SlI lo' hi' w vx x) (hh:hi≤w.heap.size) (hh':hi'≤w.heap.size) (hm:xss.length≤1048576) (hms:∀ y∈xss,y.length≤16777216) (hmx:x.length≤16777216) :
  Calls Tryz.prog 161 #[v,vx] w fun e w'=>e=.returned (.bool (decide (x∈xss)))∧Below w.heap.size w w':=by
 have HL:=H_ hl
 have HX:=H_ hx
 have HMS:=H_ hms
 obtain ⟨a,cap,rfl,_,_⟩:=hl.shape
 obtain ⟨xa,xc,rfl,_,_⟩:=Sl.shape hx
 clear hl hx hms
 go_enter Tryz.func161,Tryz.ntmps161
 go_wp2
 go_loopw [5] (fun i wr=>∃ k:Nat,k≤xss.length∧i=.int .i64 k∧Hid (Below w.heap.size w wr)∧Hid (x ∉ xss.take k)) (fun i _=>xss.length-(intOf i).toNat)
 case atStart=>exact ⟨0,by omega,rfl,H_ (B_ _ _),H_ (by simp)⟩
 case round=>
  rename World=>wr
  obtain ⟨k,hk,rfl,HB,HN⟩:=hrel
  have hzr:=HB.out.size
  by_cases hlt:k<xss.length
  ·obtain ⟨b5,off5,u5,rfl,_,_,_,hc5,hu5⟩:=(HL.out.below HB.out hh).get k hlt
   obtain ⟨ua,uc,rfl,_,_⟩:=Sl.shape hu5
   have HU:=H_ hu5
   have hly:=HMS.out _ (List.getElem_mem hlt)
   clear hu5
   go_wp2_with fail
   refine (l1SameG_any _ _ _ _ _ _ xss[k] x wr HU.out (HX.out.below HB.out hh') hly hmx).mono ?_
   rintro e1 w1 ⟨rfl,hb1⟩
   have HB1:=H_ (HB.out.trans (hb1.mono hzr))
   clear hb1
   cases heq:eqL xss[k] x
   ·have HNN:=H_ (has_step hlt HN.out (fun h=>by rw [h,eqL_same] at heq;cases heq))
    clear heq
    go_wp2
    go_roundw
    case rel=>exact ⟨k+1,by omega,by go_num,HB1,HNN⟩
    case measure=>simp [intOf];omega
   ·have HY:=H_ (show true=decide (x∈xss) by
     rw [eqL_iff] at heq
     rw [←of_decide_eq_true heq]
     simp)
    clear heq
    go_wp2
    go_ret
    exact ⟨ret_bool HY.out,HB1.out⟩
  ·obtain rfl:k=xss.length:=by omega
   have HY:=H_ (show false=decide (x∈xss) by
    have h:=HN.out
    rw [List.take_length] at h
    simp [h])
   go_wp2
   go_ret
   exact ⟨ret_bool HY.out,HB.out⟩
theorem NewL.app {lo g cap:Nat} {w w':World} {v' s:Value} {ss:List Value} {xss:List (List Int)} {ys:List Int} (h:LLs lo w.heap.size w (.slice (some ⟨g,0,none⟩) ss.length cap) ss xss) (hs:OwnI lo w.heap.size 3 w s ys)
  (ho:Own 1 lo w'.heap.size 22 w' v' (ss.length+1) (ss++[s])) (hg:(w.alloc (.cells #[s] 22)).grownBy w' (Value.slice (some ⟨g,0,none⟩) ss.length cap).ownBlock):NewL lo w' v' (xss++[ys])∧Outside lo w.heap.size w w':=by
 have hJ:=LLs.lit h hs ho hg
 obtain ⟨g2,c2,rfl⟩:=own_some ho (by simp)
 exact ⟨⟨g2,c2,ss++[s],by rw [List.length_append];rfl,hJ.1⟩,hJ.2⟩
theorem LLs.beside {lo hi lo':Nat} {w w':World} {pv v v' s:Value} {sp ss:List Value} {ps o:List (List Int)} (hO:LLs lo' w.heap.size w v ss o) (hp:LLs lo hi w pv sp ps) (hh:hi≤w.heap.size) (hd:pv.ownBlock=none∨pv.ownBlock≠v.ownBlock)
  (hg:(w.alloc (.cells #[s] 22)).grownBy w' v.ownBlock) (hl:v'.ownBlock=v.ownBlock∨v'.ownBlock=some (w.alloc (.cells #[s] 22)).heap.size) :
  LLs lo hi w' pv sp ps∧(pv.ownBlock=none∨pv.ownBlock≠v'.ownBlock):=by
 have hk:=al_below w (.cells #[s] 22)
 refine ⟨LLs.far (hp.below hk hh) (hO.1.below hk (le_ _)) hg hd,?_⟩
 rcases hl with e|e
 ·rw [e];exact hd
 ·rw [e]
  cases hb:pv.ownBlock with
  | none=>exact .inl rfl
  | some g=>
   right
   have:=(hp.1.1.lt g hb).2
   have hz:(w.alloc (.cells #[s] 22)).heap.size=w.heap.size+1:=alloc_size _ _
   simp
   omega
theorem l4All_any (lo hi:Nat) (v:Value) (t0:KT) (w:World) (hx:SlI lo hi w v t0.post) (hh:hi≤w.heap.size) (hok:t0.ok 0=true) (hsz:t0.size≤40) :
  Calls Tryz.prog 190 #[v] w (RetV fun v w'=>NewL w.heap.size w' v (allV t0.post)∧Below w.heap.size w w'):=by
 obtain ⟨a,cap,rfl,hcap,hcm⟩:=Sl.shape hx
 have HA0:=H_ (AllI.one (P:=Cl t0) (t:=t0) (List.mem_cons_self ..))
 have HK:=H_ (Cl.kept hok)
 have HPL:=H_ t0.post_length
 have hpl:t0.post.length≤40:=by rw [HPL.out];exact hsz
 obtain ⟨w0,hw0⟩:∃ w0,w0=w.alloc (.cells #[] 3):=⟨_,rfl⟩
 have hb0:Below w.heap.size w w0:=by rw [hw0];exact al_below _ _
 have hs0:w0.heap.size=w.heap.size+1:=by rw [hw0];simp
 have H0:Hid (Own 1 w.heap.size (w.heap.size+1) 3 w0 (.slice (some ⟨w.heap.size,0,none⟩) 0 0) 0 (ints [])):=H_ (by rw [hw0];exact Own.lit 1 3 w (ints []) 0 (by omega) rfl)
 have HX0:=H_ (hx.below hb0 hh)
 have HB0:=H_ hb0
 have HW0:=H_ hw0
 clear hx hw0 hb0
 go_enter Tryz.func190,Tryz.ntmps190
 go_wp2_with (at_builtin;go_loud (rw [←HW0.out];refine wpList_app_sl rfl _ _ 22 rfl 3 (.int .i64 0) 1 8 Tryz.underlying22 info_int rfl (by decide) (by decide) rfl H0.out rfl HX0.out (ints_one _) ?c1 ?c2 ?_))
 case c1=>omega
 case c2=>omega
 intro v1 w1 ho1 _ hout1 _
 have hz1:=hout1.size
 have ho1':OwnI w.heap.size w1.heap.size 3 w1 v1 t0.post:=OwnI.len (xs:=t0.post) (by simpa [ints] using ho1) (by simp)
 have hH:=LLs.one ho1' (by omega)
 have H1:=H_ (show NewL w.heap.size (w1.alloc (.cells #[v1] 22)) (.slice (some ⟨w1.heap.size,0,none⟩) 1 1) [t0.post] from ⟨_,1,[v1],rfl,by rw [alloc_size];exact hH⟩)
 have HB1:=H_ (show Below w.heap.size w (w1.alloc (.cells #[v1] 22)) from (Below.outside HB0.out hout1 (le_ _) (by omega)).trans ((al_below _ _).mono (by omega)))
 obtain ⟨oa,oc,rfl⟩:=Own.shape ho1
 clear ho1 hout1 ho1' hH HW0
 go_wp2
 go_loopw [3,4] (fun v i wr=>∃ (k:Nat) (o:List (List Int)),k≤o.length∧o.length≤41∧i=.int .i64 k∧Hid (NewL w.heap.size wr v o∧Below w.heap.size w wr∧allGo (60-k) k o=allV t0.post∧AllI (Cl t0) o)) (fun _ i _=>60-(intOf i).toNat)
 case atStart=>exact ⟨0,[t0.post],by simp,by simp,rfl,H_ ⟨H1.out,HB1.out,rfl,HA0.out⟩⟩
 case round=>
  rename World=>wr
  obtain ⟨k,o,hk,h41,rfl,HQ⟩:=hrel
  have hszr:=HQ.out.2.1.size
  obtain ⟨og,oc,rfl⟩:=HQ.out.1.shape
  by_cases hlt:k<o.length
  ·have HT:=H_ (AllI.tree HK.out HQ.out.2.2.2 hlt)
   obtain ⟨t,ht⟩:∃ t,t=treeOf (o.getD k []):=⟨_,rfl⟩
   rw [←ht] at HT
   have HTS:=H_ (Cl.size HT.out.1 hsz)
   have HTO:=H_ (HK.out.ok HT.out.1)
   have HOT:=H_ (show o[k]=t.post from by rw [HT.out.2,List.getD,List.getElem?_eq_getElem hlt];rfl)
   have HRI:=H_ (fun m (hm:m≤12)=>AllI.row HK.out HQ.out.2.2.2 HT.out.1 hm)
   have HRL:=H_ (fun m (hm:m≤12)=>(HRI.out m hm).len hsz)
   have HRN:=H_ (show allGo (60-(k+1)) (k+1) (rowL o t 12)=allV t0.post from by
    have h:=HQ.out.2.2.1
    rw [show 60-k=(60-(k+1))+1 by omega,allGo_more hlt,←ht] at h
    exact h)
   have HT1:=H_ HT.out.1
   have HRP:=H_ (show ∀ m,m≤12→∃ h:k<(rowL o t m).length,(rowL o t m)[k]=t.post from fun m _=>by
    obtain ⟨r,hr⟩:=rowL_pre o t m
    have hlt2:k<(rowL o t m).length:=by rw [hr,List.length_append];omega
    exact ⟨hlt2,by rw [List.getElem_of_eq hr,List.getElem_append_left hlt];exact HOT.out⟩)
   have HAP:=H_ (show NewL w.heap.size wr (.slice (some ⟨og,0,none⟩) o.length oc) (rowL o t 0)∧Below w.heap.size w wr from ⟨HQ.out.1,HQ.out.2.1⟩)
   clear HOT ht HQ HT
   go_wp2
   go_loopw [3,5] (fun v i wx=>∃ α:Nat,α≤4∧i=.int .i64 α∧Hid (NewL w.heap.size wx v (rowL o t (3*α))∧Below w.heap.size w wx)) (fun _ i _=>4-(intOf i).toNat)
   case atStart=>exact ⟨0,by omega,rfl,HAP⟩
   case round=>
    clear HAP
    rename World=>wx0
    obtain ⟨α,hα,rfl,HA⟩:=hrel
    obtain ⟨pg,pc,hpv⟩:=HA.out.1.shape
    subst hpv
    by_cases hlt2:α<4
    ·have hd2:decide ((α:Int)≤3)=true:=by simp;omega
     go_wp2
     go_loopw [3,6] (fun v i wx=>∃ j:Nat,j≤3∧i=.int .i64 (16+(j:Int))∧Hid (NewL w.heap.size wx v (rowL o t (3*α+j))∧Below w.heap.size w wx)) (fun _ i _=>19-(intOf i).toNat)
     case atStart=>exact ⟨0,by omega,rfl,HA⟩
     case round=>
      clear HA
      rename World=>wx
      obtain ⟨j,hj,rfl,HA⟩:=hrel
      obtain ⟨rg,rc,hrv⟩:=HA.out.1.shape
      subst hrv
      by_cases hlt3:j<3
      ·have hd3:decide ((16:Int)+(j:Int)≤18)=true:=by simp;omega
       have hzx:=HA.out.2.size
       obtain ⟨hkr,hkp⟩:=HRP.out (3*α+j) (by omega)
       have hrl41:=HRL.out (3*α+j) (by omega)
       obtain ⟨u5,_,hc5,hu5⟩:=HA.out.1.at k hkr
       rw [hkp] at hu5
       have HU5:=H_ hu5
       obtain ⟨pa5,pc5,rfl⟩:=Own.shape hu5
       have hts:=HTS.out
       have HLB:=H_ (show ∀ y∈rowL o t (3*α+j),y.length≤16777216 from fun y hy=>by
        obtain ⟨q,hq1,hq2⟩:=(HRI.out (3*α+j) (by omega)).mem y hy
        rw [←hq2,q.post_length]
        have:=Cl.size hq1 hsz
        omega)
       clear hu5 hkp
       go_wp2_with fail
       refine (l4Parts_any t _ _ _ wx α (16+(j:Int)) HU5.out.sl HTO.out (by omega) hlt2 (by omega) (by omega) (le_ _)).mono ?_
       rintro e3 w3 ⟨v3,rfl,h3_,hb3_⟩
       have hz3:=hb3_.size
       obtain ⟨bigP,lnP⟩:=parts_big HTO.out (by omega) (α:=α) (c:=16+(j:Int)) (by omega)
       have HMP:=H_ (show moveP t (3*α+j)=partsV t α (16+(j:Int)) by
        unfold moveP
        rw [show (3*α+j)/3=α by omega,show (3*α+j)%3=j by omega])
       obtain ⟨ps,hps⟩:∃ x,x=partsV t α (16+(j:Int)):=⟨_,rfl⟩
       rw [←hps] at h3_ HMP lnP bigP
       have HBP:=H_ bigP
       clear hps bigP
       obtain ⟨gp,cp,sp,rfl,h3⟩:=h3_
       have HSL:=H_ h3.2.1
       have hsl2:sp.length≤1700:=by rw [HSL.out];exact lnP
       obtain ⟨rg',rc',rss,hre,hrl⟩:=HA.out.1
       injection hre with hre1 hre2 hre3
       injection hre1 with hre1
       injection hre1 with hre1
       subst hre1 hre3
       have HA3:=H_ (show NewL w.heap.size w3 (.slice (some ⟨rg,0,none⟩) (rowL o t (3*α+j)).length rc) (rowL o t (3*α+j))∧Below w.heap.size w w3 from ⟨HA.out.1.go hb3_,HA.out.2.trans (hb3_.mono hzx)⟩)
       have H3:=H_ h3
       have HNE:Hid ((Value.slice (some ⟨gp,0,none⟩) sp.length cp).ownBlock=none∨(Value.slice (some ⟨gp,0,none⟩) sp.length cp).ownBlock≠(Value.slice (some ⟨rg,0,none⟩) (rowL o t (3*α+j)).length rc).ownBlock):=H_ (by
        right
        intro e
        have h1:=(h3.1.1.lt gp rfl).1
        have h2:=(hrl.1.1.lt rg rfl).2
        simp only [Value.ownBlock,Option.some.injEq] at e
        omega)
       have HNI:=H_ (show ∀ n,AllI (Cl t0) (newL (rowL o t (3*α+j)) (ps.take n)) from fun n=>AllI.new (HRI.out _ (by omega)) fun x hx=>moveP_kept HK.out HT1.out (m:=3*α+j) (by omega) x (by rw [HMP.out];exact List.mem_of_mem_take hx))
       clear h3 hb3_ HA hrl hre2 lnP
       go_wp2
       go_loopw [3,8] (fun v i wy=>∃ n:Nat,n≤sp.length∧i=.int .i64 n∧Hid ((NewL w.heap.size wy v (newL (rowL o t (3*α+j)) (ps.take n))∧Below w.heap.size w wy)∧LLs wx.heap.size w3.heap.size wy (.slice (some ⟨gp,0,none⟩) sp.length cp) sp ps∧((Value.slice (some ⟨gp,0,none⟩) sp.length cp).ownBlock=none∨(Value.slice (some ⟨gp,0,none⟩) sp.length cp).ownBlock≠v.ownBlock)∧w3.heap.size≤wy.heap.size)) (fun _ i _=>sp.length-(intOf i).toNat)
       case atStart=>exact ⟨0,by omega,rfl,H_ ⟨HA3.out,H3.out,HNE.out,le_ _⟩⟩
       case round=>
        clear HA3 H3 HNE
        rename World=>wy
        obtain ⟨n,hn,rfl,HA⟩:=hrel
        obtain ⟨qg,qc,ss4,rfl,hq⟩:=HA.out.1.1
        have HOQ:=H_ hq
        have HLN:=H_ hq.2.1
        have h41_:ss4.length≤41:=by rw [HLN.out];exact (HNI.out n).len hsz
        clear hq
        by_cases hlt4:n<sp.length
        ·have hnp:n<ps.length:=by rw [←HSL.out];exact hlt4
         have hzy:=HA.out.2.2.2
         have hzw:=HA.out.1.2.size
         have HNX:=H_ (newL_snoc ps[n] (ps.take n) (rowL o t (3*α+j)))
         obtain ⟨g6,e6,_,_,hg6,hc6,hu6⟩:=HA.out.2.1.at n hlt4 hnp
         injection e6 with e6
         injection e6 with e6
         subst e6
         have HU6:=H_ hu6
         obtain ⟨pa6,pc6,hs6⟩:=Own.shape hu6
         rw [hs6] at hc6
         have HS6:=H_ hs6
         have hpn:=HBP.out _ (List.getElem_mem hnp)
         clear hs6 hu6
         go_wp2_with fail
         refine (l4Has_any _ _ _ _ _ _ _ ps[n] wy HOQ.out.sl (by rw [←HS6.out];exact HU6.out.sl) (le_ _) (by omega) (by rw [←HLN.out];omega) (fun y hy=>?_) (by omega)).mono ?_
         ·rcases newL_mem.1 hy with hy|hy
          ·exact HLB.out y hy
          ·have:=HBP.out y (List.mem_of_mem_take hy);omega
         rintro e7 w7 ⟨rfl,hb7⟩
         have hz7:=hb7.size
         have HO7:=H_ ((HOQ.out.below hb7 (le_ _)).lower (le_ _) hz7)
         have HP7:=H_ (HA.out.2.1.below hb7 (by omega))
         have HU7:=H_ (HU6.out.below hb7 (by omega))
         have HB7:=H_ (HA.out.1.2.trans (hb7.mono hzw))
         have HNE:=H_ HA.out.2.2.1
         have hc7:w7.cell? ⟨gp,n,none⟩=some (.slice pa6 ps[n].length pc6):=(hb7.cell (p:=⟨gp,n,none⟩) hg6).trans hc6
         clear hb7 HA hc6
         by_cases hmem:ps[n]∈newL (rowL o t (3*α+j)) (ps.take n)
         ·have hdm:decide (ps[n]∈newL (rowL o t (3*α+j)) (ps.take n))=true:=by simp [hmem]
          have HE:Hid (newL (rowL o t (3*α+j)) (ps.take (n+1))=newL (rowL o t (3*α+j)) (ps.take n)):=H_ (by rw [List.take_succ_eq_append_getElem hnp,HNX.out,if_pos hmem])
          clear hmem HNX
          rw [hdm]
          clear hdm
          go_wp2
          go_roundw
          case rel=>exact ⟨n+1,by omega,by go_num,H_ ⟨⟨by rw [HE.out];exact ⟨qg,qc,ss4,rfl,HO7.out⟩,HB7.out⟩,HP7.out,HNE.out,by omega⟩⟩
          case measure=>simp [intOf];omega
         ·have hdm:decide (ps[n]∈newL (rowL o t (3*α+j)) (ps.take n))=false:=by simp [hmem]
          have HE:Hid (newL (rowL o t (3*α+j)) (ps.take (n+1))=newL (rowL o t (3*α+j)) (ps.take n)++[ps[n]]):=H_ (by rw [List.take_succ_eq_append_getElem hnp,HNX.out,if_neg hmem])
          clear hmem HNX
          rw [hdm]
          clear hdm
          go_wp2_with (at_builtin;go_loud (refine wpList_app_lit_at w7 rfl _ _ 119 rfl 22 (.slice none 0 0) 1 24 Tryz.underlying119 info_ints rfl (by decide) (by decide) rfl HO7.out.1 1 [.slice pa6 ps[n].length pc6] rfl rfl (by intro u hu;simp only [List.mem_singleton] at hu;subst hu;rfl) rfl ?c1 ?c2 ?_))
          case c1=>omega
          case c2=>omega
          intro v8 w8 ho8 hg8 hl8 _
          replace hl8:v8.ownBlock=(Value.slice (some ⟨qg,0,none⟩) ss4.length qc).ownBlock∨v8.ownBlock=some (w7.alloc (.cells #[.slice pa6 ps[n].length pc6] 22)).heap.size:=by rw [alloc_size];exact hl8
          have HJ:=H_ (NewL.app HO7.out (by rw [←HS6.out];exact HU7.out.lower (by omega) (by omega)) ho8 hg8)
          have HF8:=H_ (LLs.beside HO7.out HP7.out (by omega) HNE.out hg8 hl8)
          have hz8:=hg8.size
          have hz8':(w7.alloc (.cells #[.slice pa6 ps[n].length pc6] 22)).heap.size=w7.heap.size+1:=alloc_size _ _
          have HB8:=H_ (Below.outside HB7.out HJ.out.2 (le_ _) (by omega))
          obtain ⟨y8,yc8,rfl⟩:=Own.shape ho8
          clear ho8 hg8 hl8
          go_wp2
          go_roundw
          case rel=>exact ⟨n+1,by omega,by go_num,H_ ⟨⟨by rw [HE.out];exact HJ.out.1,HB8.out⟩,HF8.out.1,HF8.out.2,by omega⟩⟩
          case measure=>simp [intOf];omega
        ·obtain rfl:n=sp.length:=by omega
         have HAF:=H_ (show NewL w.heap.size wy (.slice (some ⟨qg,0,none⟩) ss4.length qc) (rowL o t (3*α+(j+1)))∧Below w.heap.size w wy from by
          have h:=HA.out.1
          rw [HSL.out,List.take_length,←HMP.out] at h
          exact h)
         clear HA HNI HSL HMP HOQ HLN
         go_wp2
         go_roundw
         case rel=>exact ⟨j+1,by omega,by go_num,HAF⟩
         case measure=>simp [intOf];omega
      ·obtain rfl:j=3:=by omega
       go_wp2
       go_roundw
       case rel=>exact ⟨α+1,by omega,by go_num,HA⟩
       case measure=>simp [intOf];omega
    ·obtain rfl:α=4:=by omega
     have HLL:=H_ (show k+1≤(rowL o t 12).length from by
      obtain ⟨h,_⟩:=HRP.out 12 (le_ _)
      omega)
     go_wp2
     go_roundw
     case rel=>exact ⟨k+1,_,HLL.out,HRL.out 12 (le_ _),by go_num,H_ ⟨HA.out.1,HA.out.2,HRN.out,HRI.out 12 (le_ _)⟩⟩
     case measure=>simp [intOf];omega
  ·obtain rfl:k=o.length:=by omega
   have HE:=H_ (show o=allV t0.post from by
    have h:=HQ.out.2.2.1
    rwa [show 60-o.length=(59-o.length)+1 by omega,allGo_done (le_ _)] at h)
   go_wp2
   go_ret
   exact RetV.mk _ rfl ⟨by rw [←HE.out];exact HQ.out.1,HQ.out.2.1⟩
def allX (e:List Int):List (List Int):=if katV e then allV e else []
theorem spec_AllParts (lo hi:Nat) (v:Value) (es:List Int) (w:World) (hx:SlI lo hi w v es) (hm:es.length≤1048576) (hh:hi≤w.heap.size) :
  Calls Tryz.prog 159 #[v] w (RetV fun v w'=>NewL w.heap.size w' v (allX es)∧Below w.heap.size w w'):=by
 obtain ⟨a,cap,rfl,_,_⟩:=Sl.shape hx
 have HX:=H_ hx
 clear hx
 cases hk:katV es with
 | true=>
  obtain ⟨t,h1,h2,_,h4⟩:=katV_tree hk
  have HE:=H_ (show allX es=allV t.post by rw [allX,hk,if_pos rfl,h2])
  have HC:=H_ (l4All_any lo hi (.slice a es.length cap) t w (by rw [h2];exact HX.out) hh h1 h4)
  clear h1 h2 h4
  go_enter Tryz.func159,Tryz.ntmps159
  go_wp2_with fail
  refine (spec_KatValid _ _ _ es _ HX.out (by omega)).mono ?_
  rintro e w1 ⟨rfl,rfl⟩
  rw [hk]
  clear hk
  go_wp2_with fail
  refine HC.out.mono ?_
  rintro e w2 ⟨v2,rfl,h2,hb⟩
  rw [←HE.out] at h2
  have HR:=H_ (And.intro h2 hb)
  obtain ⟨g2,c2,rfl⟩:=h2.shape
  clear hb h2
  go_wp2
  go_ret
  exact RetV.mk _ rfl HR.out
 | false=>
  have HE:=H_ (show allX es=[] by rw [allX,hk];rfl)
  go_enter Tryz.func159,Tryz.ntmps159
  go_wp2_with fail
  refine (spec_KatValid _ _ _ es _ HX.out (by omega)).mono ?_
  rintro e w1 ⟨rfl,rfl⟩
  rw [hk]
  clear hk
  go_wp2
  go_ret
  exact RetV.mk _ rfl ⟨by rw [HE.out];exact newL_zero _ _ (le_ _),al_below _ _⟩
structure AUE (g:Nat) (w3 wr:World) (L:List (List Int)) (k:Nat) (va vb:Value) (ss:List Value) (x:List Int):Prop where
 blk:Blk g (.cells #[va,vb] 123) wr
 ends:OwnI w3.heap.size wr.heap.size 3 wr va ((L.take k).map endL++[endL x])
 next:LLs w3.heap.size wr.heap.size wr vb ss ((L.take k).map (nextL L))
 far:∀ u∈ss,u.ownBlock=none∨u.ownBlock≠va.ownBlock
 out:Outside g (g+1) w3 wr
theorem AUE.go {g k:Nat} {w3 wr wx:World} {L:List (List Int)} {va vb:Value} {ss:List Value} {x:List Int} (h:AUE g w3 wr L k va vb ss x) (hb:Below wr.heap.size wr wx):AUE g w3 wx L k va vb ss x:=
 ⟨h.blk.below hb h.blk.lt,(h.ends.below hb (le_ _)).lower (le_ _) hb.size,(h.next.below hb (le_ _)).lower (le_ _) hb.size,h.far,h.out.trans (Outside.of_below hb (le_ _))⟩
theorem AUI.endsE {g k:Nat} {w3 w7 w9:World} {L:List (List Int)} {va vb v9:Value} {ss:List Value} {x:List Int} (h:AUI g w3 w7 L k va vb ss) (hg:g+1≤w3.heap.size) (hk:k≤L.length)
  (ho:Own 1 w3.heap.size w9.heap.size 3 w9 v9 (k+1) (ints ((L.take k).map endL)++[.int .i64 (endL x)])) (hgr:(w7.alloc (.cells #[.int .i64 (endL x)] 3)).grownBy w9 va.ownBlock)
  (hl:v9.ownBlock=va.ownBlock∨v9.ownBlock=some (w7.alloc (.cells #[.int .i64 (endL x)] 3)).heap.size):AUE g w3 (w9.setCell ⟨g,0,none⟩ v9) L k v9 vb ss x:=by
 have ha:=al_below w7 (.cells #[.int .i64 (endL x)] 3)
 have hz:(w7.alloc (.cells #[.int .i64 (endL x)] 3)).heap.size=w7.heap.size+1:=alloc_size _ _
 have hz9:=hgr.size
 have hO:=Outside.put g 0 w9 v9
 have hzO:=hO.size
 have h1:=h.go ha
 have hsz3:=h.out.size
 have hgo:=grown_outside hgr h1.ends.lt
 refine ⟨?_,?_,⟨?_,h.next.2.1,fun i p1 p2=>?_⟩,fun u hu=>?_,?_⟩
 ·exact (h1.blk.outside hgo (by omega)).put 0 v9
 ·have:=(show Own 1 w3.heap.size w9.heap.size 3 w9 v9 (k+1) (ints ((L.take k).map endL++[endL x])) by rw [ints_append];exact ho)
  exact (OwnI.len this (by simp;omega)).outside hO (.inr hg) |>.lower (le_ _) hzO
 ·exact (((h1.next.1.keep hgr (own_ne h1.next.1 h1.ends (by decide))).outside hO (.inr hg))).wide2 (le_ _) (by omega)
 ·exact (((h1.next.2.2 i p1 p2).keep hgr (h.far _ (List.getElem_mem p1))).outside hO (.inr hg)).wide2 (le_ _) (by omega)
 ·rcases hl with e|e
  ·rw [e];exact h.far u hu
  ·obtain ⟨i,hi,rfl⟩:=List.getElem_of_mem hu
   rw [e]
   cases hb:ss[i].ownBlock with
   | none=>exact .inl rfl
   | some j=>
    right
    have:=(h.next.2.2 i hi (by rw [←h.next.2.1];exact hi)).2 j hb
    simp
    omega
 ·exact (h1.out.fresh hgo (le_ _)).trans hO
theorem AUE.row {g k:Nat} {w3 wa wr:World} {L:List (List Int)} {va vb row:Value} {ss:List Value} {x:List Int} (h:AUE g w3 wa L k va vb ss x) (hb:Below wa.heap.size wa wr) (hr:OwnI wa.heap.size wr.heap.size 3 wr row (nextL L x)):AUH g w3 wr L k va vb ss row x:=by
 have h1:=h.go hb
 have hs:=h.out.size
 refine ⟨h1.blk,h1.ends,h1.next,h1.far,hr.lower hs (le_ _),?_,h1.out⟩
 cases hub:row.ownBlock with
 | none=>exact .inl rfl
 | some j=>
  right
  intro e
  have h2:=(hr.1.lt j hub)
  have h3:=h.ends.2 j e.symm
  omega
noncomputable def rowK (L:List (List Int)) (x:List Int) (m:Nat):List Int:=(List.range m).map fun m=>((setL L x m:Nat):Int)
theorem rowK_snoc (L:List (List Int)) (x:List Int) (m:Nat):rowK L x (m+1)=rowK L x m++[((setL L x m:Nat):Int)]:=by
 unfold rowK
 rw [List.range_succ,List.map_append]
 rfl
theorem rowK_len (L:List (List Int)) (x:List Int) (m:Nat):(rowK L x m).length=m:=by simp [rowK]
noncomputable def setJ (L:List (List Int)) (x:List Int) (m j:Nat):Nat:=bitsN j fun i=>L.getD i []∈moveP (treeOf x) m
theorem setJ_in {L:List (List Int)} {x:List Int} {m j:Nat} (hj:j<L.length) (h:L[j]∈moveP (treeOf x) m):setJ L x m (j+1)=setJ L x m j+2 ^ j:=by
 unfold setJ
 rw [bitsN,if_pos]
 rwa [show L.getD j []=L[j] by simp [List.getD,List.getElem?_eq_getElem hj]]
theorem setJ_out {L:List (List Int)} {x:List Int} {m j:Nat} (hj:j<L.length) (h:L[j] ∉ moveP (treeOf x) m):setJ L x m (j+1)=setJ L x m j:=by
 unfold setJ
 rw [bitsN,if_neg]
 ·rfl
 ·rwa [show L.getD j []=L[j] by simp [List.getD,List.getElem?_eq_getElem hj]]
theorem setJ_lt (L:List (List Int)) (x:List Int) (m j:Nat):setJ L x m j<2 ^ j:=bitsN_lt _ _
end Go.Proofs.YtfnnhimopokpnaaGreatDoor
