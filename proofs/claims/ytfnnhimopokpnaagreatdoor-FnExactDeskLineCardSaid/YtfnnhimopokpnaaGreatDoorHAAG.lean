/- Lemmas for this seat; no condition. -/
import Derived.Test.YtfnnhimopokpnaaGreatDoorHAAB
import Derived.Deep.RegionHeld3
namespace Go.Proofs.YtfnnhimopokpnaaGreatDoor
open Go.RowKit
set_option maxRecDepth 100000
set_option maxHeartbeats 0
set_option linter.unusedVariables false
theorem specTestValid_any (t:Int) (w:World):Calls Tryz.prog 107 #[.int .i64 t] w fun e w'=>e=.returned (.bool (inB t 0 15))∧w=w':=by
 go_enter Tryz.func107,Tryz.ntmps107
 go_wp2_with (go_at_call 101;refine (l1In_any _ _ _ _).mono ?_;rintro e w' ⟨rfl,rfl⟩)
 go_ret
 exact ⟨rfl,rfl⟩
theorem l1Named_any (t:Nat) (ht:t<16) (w:World):Calls Tryz.prog 108 #[.int .i64 t] w fun e w'=>e=.returned (.string ⟨((namedT t).getD []).toArray⟩)∧w=w':=by
 have h1:t=0∨t=1∨t=2∨t=3∨t=4∨t=5∨t=6∨t=7∨t=8∨t=9∨t=10∨t=11∨t=12∨t=13∨t=14∨t=15:=by omega
 clear ht
 rcases h1 with rfl|rfl|rfl|rfl|rfl|rfl|rfl|rfl|rfl|rfl|rfl|rfl|rfl|rfl|rfl|rfl
 all_goals (go_enter Tryz.func108,Tryz.ntmps108;go_wp2;go_ret;exact ⟨rfl,rfl⟩)
theorem conv1 (w:World) (k:Nat) :
  Sem.run Tryz.prog (convert 40 9 (.slice (some ⟨w.heap.size,0,none⟩) 1 1)) (w.alloc (.cells #[.int .u8 (48+(k:Int))] 5))=.ok (.string ⟨#[UInt8.ofNat (48+k)]⟩) (w.alloc (.cells #[.int .u8 (48+(k:Int))] 5)):=by
 have h:=conv_lit (P:=Tryz.prog) 40 9 5 Tryz.underlying40 Tryz.underlying5 Tryz.underlying9 w [48+(k:Int)]
 simp only [List.length_cons,List.length_nil,List.map_cons,List.map_nil,Nat.zero_add] at h
 rw [show ((48:Int)+(k:Int)).toNat=48+k by omega] at h
 exact h
theorem named_pos:∀ t,t<16→∀ s,namedT t=some s→(s.length=1∨s.length=2):=by decide +kernel
theorem spec_TestText (t:Nat) (ht:t<16) (w:World) :
  Calls Tryz.prog 57 #[.int .i64 t] w fun e w'=>e=.returned (.string ⟨(testT t).toArray⟩)∧Below w.heap.size w w':=by
 have hv:inB (t:Int) 0 15=true:=by simp [inB];omega
 cases hn:namedT t with
 | some s=>
  have hs:(s==[])=false:=by
   rcases named_pos t ht s hn with h|h<;>cases s<;>simp at h ⊢
  have HT:=H_ (show testT t=s by simp [testT,hn])
  have HN:=l1Named_any t ht
  rw [hn] at HN
  simp only [Option.getD_some] at HN
  replace HN:=H_ HN
  clear hn
  go_enter Tryz.func57,Tryz.ntmps57
  go_wp2_with (first | (go_at_call 107;refine (specTestValid_any _ _).mono ?_;rintro e w' ⟨rfl,rfl⟩) | (go_at_call 108;refine (HN.out _).mono ?_;rintro e w' ⟨rfl,rfl⟩))
  go_ret
  exact ⟨by rw [HT.out];rfl,B_ _ _⟩
 | none=>
  have HT:=H_ (show testT t=91 :: atomsT t 4++[93] by simp [testT,hn])
  have HN:=l1Named_any t ht
  rw [hn] at HN
  simp only [Option.getD_none] at HN
  replace HN:=H_ HN
  clear hn
  go_enter Tryz.func57,Tryz.ntmps57
  go_wp2_with (first | (go_at_call 107;refine (specTestValid_any _ _).mono ?_;rintro e w' ⟨rfl,rfl⟩) | (go_at_call 108;refine (HN.out _).mono ?_;rintro e w' ⟨rfl,rfl⟩))
  go_loopw [3,4] (fun s i wr=>∃ (k:Nat) (l:List UInt8),k≤4∧i=.int .i64 k∧s=.string ⟨l.toArray⟩∧l.length≤1+k∧Hid (l=91 :: atomsT t k)∧Hid (Below w.heap.size w wr)) (fun _ i _=>4-(intOf i).toNat)
  case atStart=>exact ⟨0,[91],by omega,rfl,rfl,by simp,H_ rfl,H_ (B_ _ _)⟩
  case round=>
   obtain ⟨k,l,hk,rfl,rfl,hlen,HL,HB⟩:=hrel
   by_cases hlt:k<4
   ·cases hq:hb t k
    ·have HQ:=H_ (l1Bit_any t k ht hlt)
     rw [hq] at HQ
     have HN:=H_ (atomsT_no hq)
     go_wp2_with (go_at_call 109;refine (HQ.out _).mono ?_;rintro e w' ⟨rfl,rfl⟩)
     go_roundw
     case rel=>exact ⟨k+1,l,by omega,by go_num,rfl,by omega,H_ (by rw [HL.out,HN.out]),HB⟩
     case measure=>simp [intOf];omega
    ·have HQ:=H_ (l1Bit_any t k ht hlt)
     rw [hq] at HQ
     have HN:=H_ (atomsT_yes hq)
     have hcv:=conv1 wr k
     go_wp2_with (go_at_call 109;refine (HQ.out _).mono ?_;rintro e w' ⟨rfl,rfl⟩)
     go_roundw
     case rel=>exact ⟨k+1,l++[48+UInt8.ofNat k],by omega,by go_num,congrArg Value.string (cat1 _ _ _ rfl),by simp;omega,H_ (by rw [HL.out,HN.out,UInt8.ofNat_add];rfl),H_ (HB.out.alloc HB.out.size _)⟩
     case measure=>simp [intOf];omega
   ·obtain rfl:k=4:=by omega
    go_wp2
    go_ret
    exact ⟨congrArg (fun b=>Ending.returned (Value.string b)) (cat1 _ _ _ (by rw [HT.out,HL.out])),HB.out⟩
theorem spec_ReadTest (l:List UInt8) (s:ByteArray) (hs:s=⟨l.toArray⟩) (w:World) :
  Calls Tryz.prog 256 #[.string s] w fun e w'=>e=.returned (rdT (readT l))∧Below w.heap.size w w':=by
 subst hs
 go_enter Tryz.func256,Tryz.ntmps256
 go_wp2
 go_loopw [4] (fun i wr=>∃ k:Nat,k≤16∧i=.int .i64 k∧Hid (NoT l k)∧Hid (Below w.heap.size w wr)) (fun i _=>16-(intOf i).toNat)
 case atStart=>exact ⟨0,by omega,rfl,H_ (by intro j hj;omega),H_ (B_ _ _)⟩
 case round=>
  obtain ⟨k,hk,rfl,HN,HB⟩:=hrel
  by_cases hlt:k<16
  ·cases hq:(testT k==l)
   ·go_wp2_with (go_at_call 57;refine (spec_TestText k hlt _).mono ?_;rintro e w1 ⟨rfl,hb⟩)
    have HB1:=H_ (HB.out.trans (hb.mono HB.out.size))
    clear hb
    go_roundw
    case rel=>
     refine ⟨k+1,by omega,by go_num,H_ ?_,HB1⟩
     intro j hj
     rcases Nat.lt_or_ge j k with h|h
     ·exact HN.out j h
     ·obtain rfl:j=k:=by omega
      simpa using hq
    case measure=>simp [intOf];omega
   ·have HR:=H_ (readT_some hlt HN.out (by simpa using hq))
    go_wp2_with (go_at_call 57;refine (spec_TestText k hlt _).mono ?_;rintro e w1 ⟨rfl,hb⟩)
    go_ret2
    exact ⟨by rw [HR.out];rfl,HB.out.trans (hb.mono HB.out.size)⟩
  ·obtain rfl:k=16:=by omega
   have HR:=H_ (readT_none HN.out)
   go_wp2
   go_ret2
   exact ⟨by rw [HR.out];rfl,HB.out⟩
def Tail (txt s:List UInt8) (n:Nat):Prop:=s=txt.drop n∧n+s.length=txt.length
theorem Tail.get {txt t:List UInt8} {d:UInt8} {n:Nat} (h:Tail txt (d :: t) n):∃ h:n<txt.length,txt[n]=d:=by
 obtain ⟨h1,h2⟩:=h
 have hl:n<txt.length:=by simp at h2;omega
 refine ⟨hl,?_⟩
 rw [List.drop_eq_getElem_cons hl] at h1
 injection h1 with h1 _
 exact h1.symm
theorem Tail.next {txt t:List UInt8} {d:UInt8} {n:Nat} (h:Tail txt (d :: t) n):Tail txt t (n+1):=by
 obtain ⟨h1,h2⟩:=h
 have hl:n<txt.length:=by simp at h2;omega
 rw [List.drop_eq_getElem_cons hl] at h1
 injection h1 with _ h1
 exact ⟨h1,by simp at h2;omega⟩
def ReadG (txt:List UInt8) (w:World) (e:List Int) (r:List UInt8) (e':Ending) (w':World):Prop:=
 ∃ v n,e'=.returned (.tuple #[v,.int .i64 ((n:Nat):Int),.bool true])∧Tail txt r n∧Below w.heap.size w w'∧OwnI w.heap.size w'.heap.size 3 w' v e
def SmallR (p:PR) (m:Nat):Prop:=∀ (w:World) (txt s:List UInt8) (n deep:Nat) (e:List Int) (r:List UInt8),Tail txt s n→txt.length≤199→deep+m≤98→p s=some (e,r) →
 Calls Tryz.prog 249 #[.string ⟨txt.toArray⟩,.int .i64 n,.int .i64 deep] w (ReadG txt w e r)
def GreatR (p:PR) (k:Int) (m:Nat):Prop:=∀ (w:World) (txt s:List UInt8) (n deep:Nat) (e:List Int) (r:List UInt8),Tail txt s n→txt.length≤199→deep+m≤98→p s=some (e,r) →
 Calls Tryz.prog 237 #[.string ⟨txt.toArray⟩,.int .i64 n,.int .i64 k,.int .i64 deep] w (ReadG txt w e r)
theorem ext_one (txt:List UInt8) (n:Nat) (h:n<txt.length):(ByteArray.mk txt.toArray).extract n (n+1)=⟨[txt[n]].toArray⟩:=by
 apply ByteArray.ext
 simp [ByteArray.data_extract]
 rw [List.drop_eq_getElem_cons h]
 rfl
theorem small_reads (sum:PR) (m:Nat) (hsh:Short sum) (hg:GreatR sum 1 m):SmallR (starredP (singleP sum)) (m+1):=by
 intro w txt s n deep e r hT hl hd hp
 simp only [starredP,Option.map_eq_some_iff] at hp
 obtain ⟨⟨e1,r1⟩,hp1,hp2⟩:=hp
 replace hp2:starP e1 r1=(e,r):=hp2
 have hlen:=single_short hsh _ _ _ hp1
 have hTn:=hT.2
 cases s with
 | nil=>simp [singleP] at hp1
 | cons c t=>
  obtain ⟨hlt,hc0⟩:=hT.get
  have HTN:=H_ hT.next
  have hget:∀ hh:n<(ByteArray.mk txt.toArray).size,(ByteArray.mk txt.toArray)[n]'hh=c:=fun _=>hc0
  have hlt2:(n:Int)<txt.length:=by omega
  have HG:=H_ hg
  have HP2:=H_ hp2
  have hwrapn:(n:Int)+1≤txt.length:=by omega
  obtain ⟨wa,hwa⟩:∃ wa,wa=w.alloc (.cells #[] 3):=⟨_,rfl⟩
  have HBA:Hid (Below w.heap.size w wa):=by rw [hwa];exact H_ ((B_ _ _).alloc (le_ _) _)
  have hsa:wa.heap.size=w.heap.size+1:=by rw [hwa];simp
  have HWA:=H_ hwa
  clear hT hg hp2 hwa
  rcases single_open hp1 with ⟨hc,d,hd41,hs⟩|⟨hc,h33,h91,rfl,hrest⟩
  ·have HP:=H_ hs
   have hcI:((c.toNat:Int)==40)=true:=by simp;omega
   have hcI2:¬(97:Int)≤c.toNat:=by omega
   have hdI:((d.toNat:Int) !=41)=false:=by simp;omega
   have hdd:(deep:Int)<99:=by omega
   clear hp1 hs hc hd41
   go_enter Tryz.func249,Tryz.ntmps249
   go_wp2_with fail
   simp only [←HWA.out]
   refine (HG.out wa txt t (n+1) (deep+1) e1 (d :: r1) HTN.out hl (by omega) HP.out).mono ?_
   rintro e' w2 ⟨v2,n2,rfl,hT2,hb,hown⟩
   obtain ⟨hlt3,hd0⟩:=hT2.get
   have hget2:∀ hh:n2<(ByteArray.mk txt.toArray).size,(ByteArray.mk txt.toArray)[n2]'hh=d:=fun _=>hd0
   have hlt4:(n2:Int)<txt.length:=by omega
   obtain ⟨a2,cap2,rfl,_⟩:=Own.open hown
   have HI:=H_ (And.intro (hown.lower (by omega:w.heap.size≤wa.heap.size) (le_ _)) (And.intro (HBA.out.trans (hb.mono (by omega))) (And.intro hT2.next HP2.out)))
   have hlen1:e1.length+r1.length≤199:=by simp at hlen;have:=hTn;simp at this;omega
   clear hb hown hT2
   go_wp2
   go_loopw [9,10,11,15] (fun o tt f en wr=>o=.slice a2 e1.length cap2∧tt=.int .i64 ((n2:Int)+1)∧f=.bool true∧en=.int .i64 ((n:Int)+1)∧wr=w2) (fun _ _ _ _ _=>0)
   case atStart=>exact ⟨rfl,rfl,rfl,rfl,rfl⟩
   case round=>
    obtain ⟨rfl,rfl,rfl,rfl,rfl⟩:=hrel
    go_wp2
    go_loopw [9,10] (fun v i wr=>∃ (a:Option Addr) (cap q:Nat) (es:List Int) (s':List UInt8),v=.slice a es.length cap∧i=.int .i64 q∧es.length+s'.length≤199 ∧
      Hid (OwnI w.heap.size wr.heap.size 3 wr (.slice a es.length cap) es∧Below w.heap.size w wr∧Tail txt s' q∧starP es s'=(e,r))) (fun v _ _=>400-slLen v)
    case atStart=>exact ⟨a2,cap2,n2+1,e1,r1,by first | rfl | simp,by go_num,hlen1,HI⟩
    case round=>
     obtain ⟨a,cap,q,es,s',rfl,rfl,hl2,HR⟩:=hrel
     have hqT:=HR.out.2.2.1.2
     cases s' with
     | nil=>
      have hst:=HR.out.2.2.2
      simp only [starP,Prod.mk.injEq] at hst
      have HST:=H_ hst
      have hqe:q=txt.length:=by simpa using hqT
      have hqI:¬(q:Int)<txt.length:=by omega
      clear hst hqT
      go_wp2
      refine bodyPost_ret (v:=.tuple #[.slice a es.length cap,.int .i64 q,.bool true]) (by simp [results,Tryz.results249,go_sem,hqe]) rfl ?_
      rw [←HST.out.1,←HST.out.2]
      exact ⟨_,q,rfl,HR.out.2.2.1,HR.out.2.1,HR.out.1⟩
     | cons b t'=>
      obtain ⟨hlq,hbq⟩:=HR.out.2.2.1.get
      have hgq:∀ hh:q<(ByteArray.mk txt.toArray).size,(ByteArray.mk txt.toArray)[q]'hh=b:=fun _=>hbq
      have hqI:(q:Int)<txt.length:=by omega
      have hst:=HR.out.2.2.2
      simp only [starP] at hst
      by_cases hb42:b.toNat=42
      ·rw [if_pos hb42] at hst
       have HST:=H_ hst
       have hbI:((b.toNat:Int)==42)=true:=by simp;omega
       have HX:=H_ (HR.out.1.sl)
       have hwsz:=HR.out.2.1.size
       have H0:Hid (Own 1 wr.heap.size (wr.heap.size+1) 3 (wr.alloc (.cells (ints []).toArray 3)) (.slice (some ⟨wr.heap.size,0,none⟩) 0 0) 0 (ints [])):=H_ (Own.lit 1 3 wr (ints []) 0 (by omega) rfl)
       obtain ⟨w0,hw0⟩:∃ w0,w0=wr.alloc (.cells (ints []).toArray 3):=⟨_,rfl⟩
       have hb0:Below wr.heap.size wr w0:=by rw [hw0];exact (B_ _ _).alloc (le_ _) _
       have hs0:w0.heap.size=wr.heap.size+1:=by rw [hw0];simp
       rw [←hw0] at H0
       have HW0:=H_ hw0
       have KX:=H_ (HX.out.below hb0 (le_ _))
       have HB0:=H_ (HR.out.2.1.trans (hb0.mono hwsz))
       have HT2:=H_ HR.out.2.2.1.next
       have hl3:es.length≤199:=by omega
       have hl4:es.length+1+t'.length≤199:=by simp at hl2;omega
       clear hw0 hb0 hst hb42 hqT HX
       go_wp2_with (at_builtin;rw [show wr.alloc (.cells #[] 3)=w0 from HW0.out.symm];refine wpList_app_sl rfl _ _ 22 rfl 3 (.int .i64 0) 1 8 Tryz.underlying22 info_int rfl (by decide) (by decide) rfl H0.out rfl KX.out (ints_one _) ?c1 ?c2 ?_)
       case c1=>omega
       case c2=>omega
       intro v1 w1 ho1 _ hout1 _
       have O1:=H_ ho1
       have hs1:=hout1.size
       have HB1:=H_ (Below.outside HB0.out hout1 hwsz (by omega))
       clear ho1 hout1 KX H0 HB0
       go_wp2_with (at_builtin;refine wpList_app_lit w1 rfl _ _ 22 rfl 3 (.int .i64 0) 1 8 Tryz.underlying22 info_int rfl (by decide) (by decide) rfl O1.out 1 (ints [21]) rfl rfl (ints_one _) rfl ?c1 ?c2 ?_)
       case c1=>omega
       case c2=>omega
       intro v2 w2 ho2 hout2 _
       obtain ⟨a',cap',rfl,_⟩:=Own.open ho2
       have H3:=H_ (And.intro ho2 (Below.outside HB1.out hout2 hwsz (by omega)))
       have hs2:=hout2.size
       clear ho2 hout2 O1 HB1
       go_wp2
       go_roundw
       case rel=>
        refine ⟨a',cap',q+1,es++[21],t',by first | (simp;done) | (simp;omega),by go_num,by simp;omega,H_ ⟨?_,H3.out.2,HT2.out,HST.out⟩⟩
        have h:=Own.wide2 H3.out.1 hwsz (le_ _)
        have e1:(es++[21]).length=es.length+1:=by simp
        have e2:ints (es++[21])=ints []++(ints es++ints [21]):=by simp [ints]
        unfold OwnI
        rw [e1,e2]
        exact h
       case measure=>simp [slLen];omega
      ·rw [if_neg hb42] at hst
       simp only [Prod.mk.injEq] at hst
       have HST:=H_ hst
       have hbI:((b.toNat:Int)==42)=false:=by simp;omega
       clear hst
       go_wp2
       refine bodyPost_ret (v:=.tuple #[.slice a es.length cap,.int .i64 q,.bool true]) (by simp [results,Tryz.results249,go_sem]) rfl ?_
       rw [←HST.out.1,←HST.out.2]
       exact ⟨_,q,rfl,HR.out.2.2.1,HR.out.2.1,HR.out.1⟩
  ·have hcI:((c.toNat:Int)==40)=false:=by simp;omega
   have hlen1:e1.length+r.length≤e1.length+r.length:=le_ _
   clear hlen1
   rcases hrest with ⟨h97,h99,rfl⟩|⟨hno,k,hk,rfl⟩
   ·have i97:(97:Int)≤c.toNat:=by omega
    have i99:(c.toNat:Int)≤99:=by omega
    have hown:=one_own (16+((c.toNat:Int)-97)) wa
    obtain ⟨wb,hwb⟩:∃ wb,wb=wa.alloc (.cells #[.int .i64 (16+((c.toNat:Int)-97))] 3):=⟨_,rfl⟩
    rw [←hwb,hsa] at hown
    have hbb:Below wa.heap.size wa wb:=by rw [hwb];exact (B_ _ _).alloc (le_ _) _
    have HI:=H_ (And.intro (hown.lower (by omega:w.heap.size≤w.heap.size+1) (le_ _)) (And.intro (HBA.out.trans (hbb.mono (by omega))) (And.intro HTN.out HP2.out)))
    have hlen1:[16+((c.toNat:Int)-97)].length+r1.length≤199:=by simp at hlen ⊢;have:=hTn;simp at this;omega
    have HWB:=H_ hwb
    clear hown hbb hwb hp1
    go_enter Tryz.func249,Tryz.ntmps249
    go_wp2
    simp only [←HWA.out]
    simp only [←HWB.out]
    go_loopw [9,10,11,15] (fun o tt f en wr=>o=.slice (some ⟨w.heap.size+1,0,none⟩) 1 1∧tt=.int .i64 ((n:Int)+1)∧f=.bool true∧en=.int .i64 ((n:Int)+1)∧wr=wb) (fun _ _ _ _ _=>0)
    case atStart=>exact ⟨rfl,rfl,rfl,rfl,rfl⟩
    case round=>
     obtain ⟨rfl,rfl,rfl,rfl,rfl⟩:=hrel
     go_wp2
     go_loopw [9,10] (fun v i wr=>∃ (a:Option Addr) (cap q:Nat) (es:List Int) (s':List UInt8),v=.slice a es.length cap∧i=.int .i64 q∧es.length+s'.length≤199 ∧
       Hid (OwnI w.heap.size wr.heap.size 3 wr (.slice a es.length cap) es∧Below w.heap.size w wr∧Tail txt s' q∧starP es s'=(e,r))) (fun v _ _=>400-slLen v)
     case atStart=>exact ⟨some ⟨w.heap.size+1,0,none⟩,1,n+1,[16+((c.toNat:Int)-97)],r1,by first | rfl | simp,by go_num,hlen1,HI⟩
     case round=>
      obtain ⟨a,cap,q,es,s',rfl,rfl,hl2,HR⟩:=hrel
      have hqT:=HR.out.2.2.1.2
      cases s' with
      | nil=>
       have hst:=HR.out.2.2.2
       simp only [starP,Prod.mk.injEq] at hst
       have HST:=H_ hst
       have hqe:q=txt.length:=by simpa using hqT
       have hqI:¬(q:Int)<txt.length:=by omega
       clear hst hqT
       go_wp2
       refine bodyPost_ret (v:=.tuple #[.slice a es.length cap,.int .i64 q,.bool true]) (by simp [results,Tryz.results249,go_sem,hqe]) rfl ?_
       rw [←HST.out.1,←HST.out.2]
       exact ⟨_,q,rfl,HR.out.2.2.1,HR.out.2.1,HR.out.1⟩
      | cons b t'=>
       obtain ⟨hlq,hbq⟩:=HR.out.2.2.1.get
       have hgq:∀ hh:q<(ByteArray.mk txt.toArray).size,(ByteArray.mk txt.toArray)[q]'hh=b:=fun _=>hbq
       have hqI:(q:Int)<txt.length:=by omega
       have hst:=HR.out.2.2.2
       simp only [starP] at hst
       by_cases hb42:b.toNat=42
       ·rw [if_pos hb42] at hst
        have HST:=H_ hst
        have hbI:((b.toNat:Int)==42)=true:=by simp;omega
        have HX:=H_ (HR.out.1.sl)
        have hwsz:=HR.out.2.1.size
        have H0:Hid (Own 1 wr.heap.size (wr.heap.size+1) 3 (wr.alloc (.cells (ints []).toArray 3)) (.slice (some ⟨wr.heap.size,0,none⟩) 0 0) 0 (ints [])):=H_ (Own.lit 1 3 wr (ints []) 0 (by omega) rfl)
        obtain ⟨w0,hw0⟩:∃ w0,w0=wr.alloc (.cells (ints []).toArray 3):=⟨_,rfl⟩
        have hb0:Below wr.heap.size wr w0:=by rw [hw0];exact (B_ _ _).alloc (le_ _) _
        have hs0:w0.heap.size=wr.heap.size+1:=by rw [hw0];simp
        rw [←hw0] at H0
        have HW0:=H_ hw0
        have KX:=H_ (HX.out.below hb0 (le_ _))
        have HB0:=H_ (HR.out.2.1.trans (hb0.mono hwsz))
        have HT2:=H_ HR.out.2.2.1.next
        have hl3:es.length≤199:=by omega
        have hl4:es.length+1+t'.length≤199:=by simp at hl2;omega
        clear hw0 hb0 hst hb42 hqT HX
        go_wp2_with (at_builtin;rw [show wr.alloc (.cells #[] 3)=w0 from HW0.out.symm];refine wpList_app_sl rfl _ _ 22 rfl 3 (.int .i64 0) 1 8 Tryz.underlying22 info_int rfl (by decide) (by decide) rfl H0.out rfl KX.out (ints_one _) ?c1 ?c2 ?_)
        case c1=>omega
        case c2=>omega
        intro v1 w1 ho1 _ hout1 _
        have O1:=H_ ho1
        have hs1:=hout1.size
        have HB1:=H_ (Below.outside HB0.out hout1 hwsz (by omega))
        clear ho1 hout1 KX H0 HB0
        go_wp2_with (at_builtin;refine wpList_app_lit w1 rfl _ _ 22 rfl 3 (.int .i64 0) 1 8 Tryz.underlying22 info_int rfl (by decide) (by decide) rfl O1.out 1 (ints [21]) rfl rfl (ints_one _) rfl ?c1 ?c2 ?_)
        case c1=>omega
        case c2=>omega
        intro v2 w2 ho2 hout2 _
        obtain ⟨a',cap',rfl,_⟩:=Own.open ho2
        have H3:=H_ (And.intro ho2 (Below.outside HB1.out hout2 hwsz (by omega)))
        have hs2:=hout2.size
        clear ho2 hout2 O1 HB1
        go_wp2
        go_roundw
        case rel=>
         refine ⟨a',cap',q+1,es++[21],t',by first | (simp;done) | (simp;omega),by go_num,by simp;omega,H_ ⟨?_,H3.out.2,HT2.out,HST.out⟩⟩
         have h:=Own.wide2 H3.out.1 hwsz (le_ _)
         have e1:(es++[21]).length=es.length+1:=by simp
         have e2:ints (es++[21])=ints []++(ints es++ints [21]):=by simp [ints]
         unfold OwnI
         rw [e1,e2]
         exact h
        case measure=>simp [slLen];omega
       ·rw [if_neg hb42] at hst
        simp only [Prod.mk.injEq] at hst
        have HST:=H_ hst
        have hbI:((b.toNat:Int)==42)=false:=by simp;omega
        clear hst
        go_wp2
        refine bodyPost_ret (v:=.tuple #[.slice a es.length cap,.int .i64 q,.bool true]) (by simp [results,Tryz.results249,go_sem]) rfl ?_
        rw [←HST.out.1,←HST.out.2]
        exact ⟨_,q,rfl,HR.out.2.2.1,HR.out.2.1,HR.out.1⟩
   ·have HRT:=H_ hk
    have hex:=ext_one txt n hlt
    rw [hc0] at hex
    have hlen1:[(k:Int)].length+r1.length≤199:=by simp at hlen ⊢;have:=hTn;simp at this;omega
    have hcmp:((97:Int)≤c.toNat∧¬(c.toNat:Int)≤99)∨¬(97:Int)≤c.toNat:=by omega
    clear hno hk hp1
    rcases hcmp with ⟨i97,i99⟩|i97
    all_goals (
     go_enter Tryz.func249,Tryz.ntmps249
     go_wp2
     simp only [←HWA.out]
     go_loopw [9,10,11,15] (fun o tt f en wr=>(f=.bool false∧en=.int .i64 ((n:Int)+1)∧wr=wa)∨(∃ a cap,o=.slice a 1 cap∧tt=.int .i64 ((n:Int)+1)∧f=.bool true∧en=.int .i64 ((n:Int)+1+1)∧Hid (OwnI w.heap.size wr.heap.size 3 wr (.slice a 1 cap) [(k:Int)]∧Below w.heap.size w wr))) (fun _ _ _ en _=>n+5-(intOf en).toNat)
     case atStart=>exact .inl ⟨rfl,rfl,rfl⟩
     case round=>
      rcases hrel with ⟨rfl,rfl,rfl⟩|⟨a2,cap2,rfl,rfl,rfl,rfl,HO2⟩
      ·have hle6:(n:Int)+1≤n+6:=by omega
       have hto1:((n:Int)+1).toNat=n+1:=by omega
       go_wp2_with fail
       refine (spec_ReadTest [c] _ rfl _).mono ?_
       rintro e' w2 ⟨rfl,hb⟩
       rw [HRT.out,show rdT (some k)=.tuple #[.int .i64 k,.bool true] from rfl]
       have hown:=one_own (k:Int) w2
       obtain ⟨wb,hwb⟩:∃ wb,wb=w2.alloc (.cells #[.int .i64 (k:Int)] 3):=⟨_,rfl⟩
       rw [←hwb] at hown
       have hbb:Below w2.heap.size w2 wb:=by rw [hwb];exact (B_ _ _).alloc (le_ _) _
       have hs2:=hb.size
       have HI:=H_ (And.intro (hown.lower (by omega:w.heap.size≤w2.heap.size) (le_ _)) ((HBA.out.trans (hb.mono (by omega))).trans (hbb.mono (by omega))))
       have HWB:=H_ hwb
       clear hown hbb hwb hb
       go_wp2
       simp only [←HWB.out]
       go_roundw
       case rel=>refine .inr ⟨some ⟨w2.heap.size,0,none⟩,1,?_,?_,?_,?_,HI⟩<;>first | rfl | trivial | go_num
       case measure=>simp [intOf];omega
      ·have HI:=H_ (And.intro HO2.out.1 (And.intro HO2.out.2 (And.intro HTN.out HP2.out)))
       have hle7:(n:Int)+1+1≤n+6:=by omega
       by_cases hq2:(n:Int)+1+1≤txt.length
       all_goals (
        go_wp2
        go_loopw [9,10] (fun v i wr=>∃ (a:Option Addr) (cap q:Nat) (es:List Int) (s':List UInt8),v=.slice a es.length cap∧i=.int .i64 q∧es.length+s'.length≤199 ∧
          Hid (OwnI w.heap.size wr.heap.size 3 wr (.slice a es.length cap) es∧Below w.heap.size w wr∧Tail txt s' q∧starP es s'=(e,r))) (fun v _ _=>400-slLen v)
        case atStart=>exact ⟨a2,cap2,n+1,[(k:Int)],r1,by first | rfl | simp,by go_num,hlen1,HI⟩
        case round=>
         obtain ⟨a,cap,q,es,s',rfl,rfl,hl2,HR⟩:=hrel
         have hqT:=HR.out.2.2.1.2
         cases s' with
         | nil=>
          have hst:=HR.out.2.2.2
          simp only [starP,Prod.mk.injEq] at hst
          have HST:=H_ hst
          have hqe:q=txt.length:=by simpa using hqT
          have hqI:¬(q:Int)<txt.length:=by omega
          clear hst hqT
          go_wp2
          refine bodyPost_ret (v:=.tuple #[.slice a es.length cap,.int .i64 q,.bool true]) (by simp [results,Tryz.results249,go_sem,hqe]) rfl ?_
          rw [←HST.out.1,←HST.out.2]
          exact ⟨_,q,rfl,HR.out.2.2.1,HR.out.2.1,HR.out.1⟩
         | cons b t'=>
          obtain ⟨hlq,hbq⟩:=HR.out.2.2.1.get
          have hgq:∀ hh:q<(ByteArray.mk txt.toArray).size,(ByteArray.mk txt.toArray)[q]'hh=b:=fun _=>hbq
          have hqI:(q:Int)<txt.length:=by omega
          have hst:=HR.out.2.2.2
          simp only [starP] at hst
          by_cases hb42:b.toNat=42
          ·rw [if_pos hb42] at hst
           have HST:=H_ hst
           have hbI:((b.toNat:Int)==42)=true:=by simp;omega
           have HX:=H_ (HR.out.1.sl)
           have hwsz:=HR.out.2.1.size
           have H0:Hid (Own 1 wr.heap.size (wr.heap.size+1) 3 (wr.alloc (.cells (ints []).toArray 3)) (.slice (some ⟨wr.heap.size,0,none⟩) 0 0) 0 (ints [])):=H_ (Own.lit 1 3 wr (ints []) 0 (by omega) rfl)
           obtain ⟨w0,hw0⟩:∃ w0,w0=wr.alloc (.cells (ints []).toArray 3):=⟨_,rfl⟩
           have hb0:Below wr.heap.size wr w0:=by rw [hw0];exact (B_ _ _).alloc (le_ _) _
           have hs0:w0.heap.size=wr.heap.size+1:=by rw [hw0];simp
           rw [←hw0] at H0
           have HW0:=H_ hw0
           have KX:=H_ (HX.out.below hb0 (le_ _))
           have HB0:=H_ (HR.out.2.1.trans (hb0.mono hwsz))
           have HT2:=H_ HR.out.2.2.1.next
           have hl3:es.length≤199:=by omega
           have hl4:es.length+1+t'.length≤199:=by simp at hl2;omega
           clear hw0 hb0 hst hb42 hqT HX
           go_wp2_with (at_builtin;rw [show wr.alloc (.cells #[] 3)=w0 from HW0.out.symm];refine wpList_app_sl rfl _ _ 22 rfl 3 (.int .i64 0) 1 8 Tryz.underlying22 info_int rfl (by decide) (by decide) rfl H0.out rfl KX.out (ints_one _) ?c1 ?c2 ?_)
           case c1=>omega
           case c2=>omega
           intro v1 w1 ho1 _ hout1 _
           have O1:=H_ ho1
           have hs1:=hout1.size
           have HB1:=H_ (Below.outside HB0.out hout1 hwsz (by omega))
           clear ho1 hout1 KX H0 HB0
           go_wp2_with (at_builtin;refine wpList_app_lit w1 rfl _ _ 22 rfl 3 (.int .i64 0) 1 8 Tryz.underlying22 info_int rfl (by decide) (by decide) rfl O1.out 1 (ints [21]) rfl rfl (ints_one _) rfl ?c1 ?c2 ?_)
           case c1=>omega
           case c2=>omega
           intro v2 w2 ho2 hout2 _
           obtain ⟨a',cap',rfl,_⟩:=Own.open ho2
           have H3:=H_ (And.intro ho2 (Below.outside HB1.out hout2 hwsz (by omega)))
           have hs2:=hout2.size
           clear ho2 hout2 O1 HB1
           go_wp2
           go_roundw
           case rel=>
            refine ⟨a',cap',q+1,es++[21],t',by first | (simp;done) | (simp;omega),by go_num,by simp;omega,H_ ⟨?_,H3.out.2,HT2.out,HST.out⟩⟩
            have h:=Own.wide2 H3.out.1 hwsz (le_ _)
            have e1:(es++[21]).length=es.length+1:=by simp
            have e2:ints (es++[21])=ints []++(ints es++ints [21]):=by simp [ints]
            unfold OwnI
            rw [e1,e2]
            exact h
           case measure=>simp [slLen];omega
          ·rw [if_neg hb42] at hst
           simp only [Prod.mk.injEq] at hst
           have HST:=H_ hst
           have hbI:((b.toNat:Int)==42)=false:=by simp;omega
           clear hst
           go_wp2
           refine bodyPost_ret (v:=.tuple #[.slice a es.length cap,.int .i64 q,.bool true]) (by simp [results,Tryz.results249,go_sem]) rfl ?_
           rw [←HST.out.1,←HST.out.2]
           exact ⟨_,q,rfl,HR.out.2.2.1,HR.out.2.1,HR.out.1⟩))
theorem great3_reads (p:PR) (m:Nat) (h:SmallR p m):GreatR p 3 m:=by
 intro w txt s n deep e r hT hl hd hp
 have HC:=H_ (h w txt s n deep e r hT hl hd hp)
 clear h hT hp
 go_enter Tryz.func237,Tryz.ntmps237
 go_wp2_with fail
 refine HC.out.mono ?_
 rintro e' w1 ⟨v,q,rfl,h1,h2,h3⟩
 have H:=H_ (And.intro h1 (And.intro h2 h3))
 clear h1 h2 h3
 go_wp2
 refine bodyPost_ret (v:=.tuple #[v,.int .i64 q,.bool true]) (by simp [results,Tryz.results237,go_sem]) rfl ⟨v,q,rfl,H.out.1,H.out.2.1,H.out.2.2⟩
theorem great2_reads (part:PR) (m:Nat) (hsh:Short part) (hpart:GreatR part 3 m):GreatR (chainP 59 19 part) 2 m:=by
 intro w txt s n deep e r hT hl hd hp
 simp only [chainP,Option.bind_eq_some_iff] at hp
 obtain ⟨⟨e1,r1⟩,hp1,hp2⟩:=hp
 have hlen:=hsh _ _ _ hp1
 have hTn:=hT.2
 have HP:=H_ hpart
 have HS:=H_ hsh
 have HC:=H_ (hpart w txt s n deep e1 r1 hT hl hd hp1)
 have HL:=H_ (Exists.intro (p:=fun q=>loopP 59 19 part q e1 r1=some (e,r)) r1.length hp2)
 clear hpart hsh hp1 hp2 hT
 go_enter Tryz.func237,Tryz.ntmps237
 go_wp2_with fail
 refine HC.out.mono ?_
 rintro e' w1 ⟨v1,n1,rfl,hT1,hb,hown⟩
 obtain ⟨a1,cap1,rfl,_⟩:=Own.open hown
 have HI:=H_ (And.intro hown (And.intro hb (And.intro hT1 HL.out)))
 have hl1:e1.length+r1.length≤199:=by omega
 clear hb hown hT1 HC HL
 go_wp2
 go_loopw [11,12,13] (fun v i f wr=>∃ (a:Option Addr) (cap q:Nat) (es:List Int) (s':List UInt8),v=.slice a es.length cap∧i=.int .i64 q∧f=.bool true∧es.length+s'.length≤199 ∧
   Hid (OwnI w.heap.size wr.heap.size 3 wr (.slice a es.length cap) es∧Below w.heap.size w wr∧Tail txt s' q∧∃ x,loopP 59 19 part x es s'=some (e,r))) (fun v _ _ _=>400-slLen v)
 case atStart=>exact ⟨a1,cap1,n1,e1,r1,rfl,rfl,rfl,hl1,HI⟩
 case round=>
  obtain ⟨a,cap,q,es,s',rfl,rfl,rfl,hl2,HR⟩:=hrel
  clear HI
  obtain ⟨x,hx⟩:=HR.out.2.2.2
  have hqT:=HR.out.2.2.1.2
  cases s' with
  | nil=>
   have hst:es=e∧[]=r:=by cases x<;>simpa [loopP] using hx
   have HST:=H_ hst
   have hqe:q=txt.length:=by simpa using hqT
   have hqI:¬(q:Int)<txt.length:=by omega
   clear hst hqT hx
   go_wp2
   go_region
   all_goals (
    go_wp2
    refine bodyPost_ret (v:=.tuple #[.slice a es.length cap,.int .i64 q,.bool true]) (by simp [results,Tryz.results237,go_sem,hqe]) rfl ?_
    rw [←HST.out.1,←HST.out.2]
    exact ⟨_,q,rfl,HR.out.2.2.1,HR.out.2.1.drew,HR.out.1⟩)
  | cons b t'=>
   obtain ⟨hlq,hbq⟩:=HR.out.2.2.1.get
   have hgq:∀ hh:q<(ByteArray.mk txt.toArray).size,(ByteArray.mk txt.toArray)[q]'hh=b:=fun _=>hbq
   have hqI:(q:Int)<txt.length:=by omega
   rcases loop_open hx with ⟨hq,he,hr⟩|⟨hq,e2,r2,x',hq1,hq2⟩
   ·have HE:=H_ (And.intro he hr)
    have hbI:((b.toNat:Int)==59)=false:=hq
    clear hq he hr hx
    go_wp2
    go_region
    have hbn:Below wr.heap.size wr (wr.alloc (.cells #[.int .u8 43,.int .u8 59] 5)).drew:=((B_ _ _).alloc (le_ _) _).drew
    have hsn:wr.heap.size≤(wr.alloc (.cells #[.int .u8 43,.int .u8 59] 5)).drew.heap.size:=hbn.size
    have HF:=H_ (And.intro (HR.out.2.1.trans (hbn.mono HR.out.2.1.size)) ((HR.out.1.below hbn (le_ _)).lower (le_ _) hsn))
    clear hbn hsn
    go_wp2
    refine bodyPost_ret (v:=.tuple #[.slice a es.length cap,.int .i64 q,.bool true]) (by simp [results,Tryz.results237,go_sem]) rfl ?_
    rw [HE.out.1,HE.out.2]
    exact ⟨_,q,rfl,HR.out.2.2.1,HF.out.1,HF.out.2⟩
   ·have HQ1:=H_ hq1
    have HQ2:=H_ hq2
    have hbI:((b.toNat:Int)==59)=true:=hq
    clear hq hq1 hq2 hx
    go_wp2
    go_region
    obtain ⟨w2,hw2⟩:∃ w2,w2=(wr.alloc (.cells #[.int .u8 43,.int .u8 59] 5)).drew:=⟨_,rfl⟩
    have hbn:Below wr.heap.size wr w2:=by rw [hw2];exact ((B_ _ _).alloc (le_ _) _).drew
    have hsn:=hbn.size
    have HF:=H_ (And.intro (HR.out.2.1.trans (hbn.mono HR.out.2.1.size)) ((HR.out.1.below hbn (le_ _)).lower (le_ _) hsn))
    have HTN:=H_ HR.out.2.2.1.next
    have HW2:=H_ hw2
    have hsh2:=HS.out _ _ _ HQ1.out
    simp only [List.tail_cons] at hsh2
    have hl4:es.length+1+t'.length≤199:=by simp at hl2;omega
    clear hbn hw2 hqT
    go_wp2_with fail
    simp only [←HW2.out]
    refine (HP.out w2 txt t' (q+1) deep e2 r2 HTN.out hl hd HQ1.out).mono ?_
    rintro e' w3 ⟨v3,n3,rfl,hT3,hb3,hown3⟩
    obtain ⟨a3,cap3,rfl,_⟩:=Own.open hown3
    have hs3:=hb3.size
    have HF3:=H_ (And.intro (HF.out.1.trans (hb3.mono HF.out.1.size)) (HF.out.2.below hb3 (le_ _)))
    have HO3:=H_ hown3
    have HT3:=H_ hT3
    clear hb3 hown3 hT3
    obtain ⟨w4,hw4⟩:∃ w4,w4=w3.alloc (.cells #[.int .i64 20,.int .i64 19] 3):=⟨_,rfl⟩
    have hb4:Below w3.heap.size w3 w4:=by rw [hw4];exact (B_ _ _).alloc (le_ _) _
    have hs4:=hb4.size
    have HW4:=H_ hw4
    have HA:=H_ (HF3.out.2.sl.below hb4 hs3)
    have HB:=H_ (HO3.out.sl.below hb4 (le_ _))
    have HF4:=H_ (HF3.out.1.trans (hb4.mono HF3.out.1.size))
    clear hw4 hb4
    go_wp2_with fail
    simp only [←HW4.out]
    refine (l2Join_any _ _ _ _ _ _ es e2 19 w4 HA.out HB.out (by omega) (by omega) (by omega)).mono ?_
    rintro e' w5 ⟨v5,rfl,hb5,hown5⟩
    obtain ⟨a5,cap5,rfl,_⟩:=Own.open hown5
    have hs1':=HF4.out.size
    have HI5:=H_ (And.intro (hown5.lower hs1' (le_ _)) (And.intro (HF4.out.trans (hb5.mono hs1')) (And.intro HT3.out (Exists.intro (p:=fun z=>loopP 59 19 part z (es++e2++[19]) r2=some (e,r)) x' HQ2.out))))
    clear hb5 hown5
    go_wp2
    go_roundw
    case rel=>exact ⟨a5,cap5,n3,es++e2++[19],r2,by first | rfl | (simp;done) | (simp;omega),rfl,rfl,by simp;omega,HI5⟩
    case measure=>simp [slLen];omega
theorem great1_reads (part:PR) (m:Nat) (hsh:Short part) (hpart:GreatR part 2 m):GreatR (chainP 43 20 part) 1 m:=by
 intro w txt s n deep e r hT hl hd hp
 simp only [chainP,Option.bind_eq_some_iff] at hp
 obtain ⟨⟨e1,r1⟩,hp1,hp2⟩:=hp
 have hlen:=hsh _ _ _ hp1
 have hTn:=hT.2
 have HP:=H_ hpart
 have HS:=H_ hsh
 have HC:=H_ (hpart w txt s n deep e1 r1 hT hl hd hp1)
 have HL:=H_ (Exists.intro (p:=fun q=>loopP 43 20 part q e1 r1=some (e,r)) r1.length hp2)
 clear hpart hsh hp1 hp2 hT
 go_enter Tryz.func237,Tryz.ntmps237
 go_wp2_with fail
 refine HC.out.mono ?_
 rintro e' w1 ⟨v1,n1,rfl,hT1,hb,hown⟩
 obtain ⟨a1,cap1,rfl,_⟩:=Own.open hown
 have HI:=H_ (And.intro hown (And.intro hb (And.intro hT1 HL.out)))
 have hl1:e1.length+r1.length≤199:=by omega
 clear hb hown hT1 HC HL
 go_wp2
 go_loopw [11,12,13] (fun v i f wr=>∃ (a:Option Addr) (cap q:Nat) (es:List Int) (s':List UInt8),v=.slice a es.length cap∧i=.int .i64 q∧f=.bool true∧es.length+s'.length≤199 ∧
   Hid (OwnI w.heap.size wr.heap.size 3 wr (.slice a es.length cap) es∧Below w.heap.size w wr∧Tail txt s' q∧∃ x,loopP 43 20 part x es s'=some (e,r))) (fun v _ _ _=>400-slLen v)
 case atStart=>exact ⟨a1,cap1,n1,e1,r1,rfl,rfl,rfl,hl1,HI⟩
 case round=>
  obtain ⟨a,cap,q,es,s',rfl,rfl,rfl,hl2,HR⟩:=hrel
  clear HI
  obtain ⟨x,hx⟩:=HR.out.2.2.2
  have hqT:=HR.out.2.2.1.2
  cases s' with
  | nil=>
   have hst:es=e∧[]=r:=by cases x<;>simpa [loopP] using hx
   have HST:=H_ hst
   have hqe:q=txt.length:=by simpa using hqT
   have hqI:¬(q:Int)<txt.length:=by omega
   clear hst hqT hx
   go_wp2
   go_region
   all_goals (
    go_wp2
    refine bodyPost_ret (v:=.tuple #[.slice a es.length cap,.int .i64 q,.bool true]) (by simp [results,Tryz.results237,go_sem,hqe]) rfl ?_
    rw [←HST.out.1,←HST.out.2]
    exact ⟨_,q,rfl,HR.out.2.2.1,HR.out.2.1.drew,HR.out.1⟩)
  | cons b t'=>
   obtain ⟨hlq,hbq⟩:=HR.out.2.2.1.get
   have hgq:∀ hh:q<(ByteArray.mk txt.toArray).size,(ByteArray.mk txt.toArray)[q]'hh=b:=fun _=>hbq
   have hqI:(q:Int)<txt.length:=by omega
   rcases loop_open hx with ⟨hq,he,hr⟩|⟨hq,e2,r2,x',hq1,hq2⟩
   ·have HE:=H_ (And.intro he hr)
    have hbI:((b.toNat:Int)==43)=false:=hq
    clear hq he hr hx
    go_wp2
    go_region
    have hbn:Below wr.heap.size wr (wr.alloc (.cells #[.int .u8 43,.int .u8 59] 5)).drew:=((B_ _ _).alloc (le_ _) _).drew
    have hsn:wr.heap.size≤(wr.alloc (.cells #[.int .u8 43,.int .u8 59] 5)).drew.heap.size:=hbn.size
    have HF:=H_ (And.intro (HR.out.2.1.trans (hbn.mono HR.out.2.1.size)) ((HR.out.1.below hbn (le_ _)).lower (le_ _) hsn))
    clear hbn hsn
    go_wp2
    refine bodyPost_ret (v:=.tuple #[.slice a es.length cap,.int .i64 q,.bool true]) (by simp [results,Tryz.results237,go_sem]) rfl ?_
    rw [HE.out.1,HE.out.2]
    exact ⟨_,q,rfl,HR.out.2.2.1,HF.out.1,HF.out.2⟩
   ·have HQ1:=H_ hq1
    have HQ2:=H_ hq2
    have hbI:((b.toNat:Int)==43)=true:=hq
    clear hq hq1 hq2 hx
    go_wp2
    go_region
    obtain ⟨w2,hw2⟩:∃ w2,w2=(wr.alloc (.cells #[.int .u8 43,.int .u8 59] 5)).drew:=⟨_,rfl⟩
    have hbn:Below wr.heap.size wr w2:=by rw [hw2];exact ((B_ _ _).alloc (le_ _) _).drew
    have hsn:=hbn.size
    have HF:=H_ (And.intro (HR.out.2.1.trans (hbn.mono HR.out.2.1.size)) ((HR.out.1.below hbn (le_ _)).lower (le_ _) hsn))
    have HTN:=H_ HR.out.2.2.1.next
    have HW2:=H_ hw2
    have hsh2:=HS.out _ _ _ HQ1.out
    simp only [List.tail_cons] at hsh2
    have hl4:es.length+1+t'.length≤199:=by simp at hl2;omega
    clear hbn hw2 hqT
    go_wp2_with fail
    simp only [←HW2.out]
    refine (HP.out w2 txt t' (q+1) deep e2 r2 HTN.out hl hd HQ1.out).mono ?_
    rintro e' w3 ⟨v3,n3,rfl,hT3,hb3,hown3⟩
    obtain ⟨a3,cap3,rfl,_⟩:=Own.open hown3
    have hs3:=hb3.size
    have HF3:=H_ (And.intro (HF.out.1.trans (hb3.mono HF.out.1.size)) (HF.out.2.below hb3 (le_ _)))
    have HO3:=H_ hown3
    have HT3:=H_ hT3
    clear hb3 hown3 hT3
    obtain ⟨w4,hw4⟩:∃ w4,w4=w3.alloc (.cells #[.int .i64 20,.int .i64 19] 3):=⟨_,rfl⟩
    have hb4:Below w3.heap.size w3 w4:=by rw [hw4];exact (B_ _ _).alloc (le_ _) _
    have hs4:=hb4.size
    have HW4:=H_ hw4
    have HA:=H_ (HF3.out.2.sl.below hb4 hs3)
    have HB:=H_ (HO3.out.sl.below hb4 (le_ _))
    have HF4:=H_ (HF3.out.1.trans (hb4.mono HF3.out.1.size))
    clear hw4 hb4
    go_wp2_with fail
    simp only [←HW4.out]
    refine (l2Join_any _ _ _ _ _ _ es e2 20 w4 HA.out HB.out (by omega) (by omega) (by omega)).mono ?_
    rintro e' w5 ⟨v5,rfl,hb5,hown5⟩
    obtain ⟨a5,cap5,rfl,_⟩:=Own.open hown5
    have hs1':=HF4.out.size
    have HI5:=H_ (And.intro (hown5.lower hs1' (le_ _)) (And.intro (HF4.out.trans (hb5.mono hs1')) (And.intro HT3.out (Exists.intro (p:=fun z=>loopP 43 20 part z (es++e2++[20]) r2=some (e,r)) x' HQ2.out))))
    clear hb5 hown5
    go_wp2
    go_roundw
    case rel=>exact ⟨a5,cap5,n3,es++e2++[20],r2,by first | rfl | (simp;done) | (simp;omega),rfl,rfl,by simp;omega,HI5⟩
    case measure=>simp [slLen];omega
theorem sum_greats:∀ n,GreatR (sumP n) 1 n
 | 0=>by intro w txt s n deep e r hT hl hd hp;cases hp
 | n+1=>great1_reads _ _ (chain_short (starred_short (single_short (sum_short n)))) (great2_reads _ _ (starred_short (single_short (sum_short n))) (great3_reads _ _ (small_reads _ _ (sum_short n) (sum_greats n))))
theorem spec_ReadKat (txt:List UInt8) (e:List Int) (s:ByteArray) (hs:s=⟨txt.toArray⟩) (w:World) (hl:txt.length≤98) (hp:sumP txt.length txt=some (e,[])) (hv:katV e=true) :
  Calls Tryz.prog 214 #[.string s] w (RetV fun x w'=>∃ v,x=.tuple #[v,.bool true]∧Below w.heap.size w w'∧OwnI w.heap.size w'.heap.size 3 w' v e):=by
 subst hs
 have HC:=H_ (sum_greats txt.length w txt txt 0 0 e [] ⟨by simp,by simp⟩ (by omega) (by omega) hp)
 have helen:e.length≤1048576:=by have:=sum_short txt.length _ _ _ hp;simp at this;omega
 clear hp
 go_enter Tryz.func214,Tryz.ntmps214
 go_wp2_with fail
 refine HC.out.mono ?_
 rintro e' w1 ⟨v,n,rfl,hT,hb,hown⟩
 have hn:n=txt.length:=by have:=hT.2;simpa using this
 subst hn
 obtain ⟨a,cap,rfl,_⟩:=Own.open hown
 have HI:=H_ (And.intro hb hown)
 clear hb hown hT HC
 go_wp2_with fail
 refine (spec_KatValid _ _ _ e _ HI.out.2.sl helen).mono ?_
 rintro e' w2 ⟨rfl,rfl⟩
 rw [hv]
 go_wp2
 refine bodyPost_ret (v:=.tuple #[.slice a e.length cap,.bool true]) (by simp [results,Tryz.results214,go_sem]) rfl ⟨_,rfl,_,rfl,HI.out.1,HI.out.2⟩
theorem convC (w:World) (x:Nat) :
  Sem.run Tryz.prog (convert 40 9 (.slice (some ⟨w.heap.size,0,none⟩) 1 1)) (w.alloc (.cells #[.int .u8 (x:Int)] 5))=.ok (.string ⟨#[UInt8.ofNat x]⟩) (w.alloc (.cells #[.int .u8 (x:Int)] 5)):=by
 have h:=conv_lit (P:=Tryz.prog) 40 9 5 Tryz.underlying40 Tryz.underlying5 Tryz.underlying9 w [(x:Int)]
 simp only [List.length_cons,List.length_nil,List.map_cons,List.map_nil,Nat.zero_add,Int.toNat_natCast] at h
 exact h
theorem map_take_next {txt:List UInt8} {k:Nat} (h:k<txt.length):(txt.take (k+1)).map repl8=(txt.take k).map repl8++[repl8 txt[k]]:=by
 rw [List.map_take,List.map_take,List.take_add_one,List.getElem?_eq_getElem (by simpa using h)]
 simp
theorem l9Side_any (txt:List UInt8) (e:List Int) (w:World) (hl:txt.length≤98) (hp:sumP txt.length (txt.map repl8)=some (e,[])) (hv:katV e=true) :
  Calls Tryz.prog 189 #[.string ⟨txt.toArray⟩] w (RetV fun v w'=>Below w.heap.size w w'∧OwnI w.heap.size w'.heap.size 3 w' v (e.map toVar)):=by
 have HP:=H_ hp
 have helen:e.length≤98:=by have:=sum_short txt.length _ _ _ hp;simp at this;omega
 clear hp
 go_enter Tryz.func189,Tryz.ntmps189
 go_wp2
 go_loopw [3,4] (fun s i wr=>∃ (k:Nat) (l:List UInt8),k≤txt.length∧i=.int .i64 k∧s=.string ⟨l.toArray⟩∧l.length≤98∧Hid (l=(txt.take k).map repl8∧Below w.heap.size w wr)) (fun _ i _=>txt.length-(intOf i).toNat)
 case atStart=>exact ⟨0,[],by omega,rfl,rfl,by simp,H_ ⟨rfl,B_ _ _⟩⟩
 case round=>
  obtain ⟨k,l,hk,rfl,rfl,hll,HR⟩:=hrel
  by_cases hlt:k<txt.length
  ·obtain ⟨c,hc⟩:∃ c,c=txt[k]:=⟨_,rfl⟩
   have hget:∀ hh:k<(ByteArray.mk txt.toArray).size,(ByteArray.mk txt.toArray)[k]'hh=c:=fun _=>hc.symm
   have hll2:l.length=k:=by rw [HR.out.1];simp;omega
   have hlt2:(k:Int)<txt.length:=by omega
   have hcl:c.toNat<256:=c.toNat_lt
   have HN:=H_ (map_take_next hlt)
   rw [←hc] at HN
   have hl2:(l++[repl8 c]).length≤98:=by simp;omega
   have HNX:Hid (l++[repl8 c]=(txt.take (k+1)).map repl8∧Below w.heap.size w (wr.alloc (.cells #[.int .u8 (replC c.toNat:Nat)] 5))):=H_ ⟨by rw [HN.out,HR.out.1],HR.out.2.alloc HR.out.2.size _⟩
   have hcv:=convC wr (replC c.toNat)
   have hcat:=cat1 l (UInt8.ofNat (replC c.toNat)) (l++[repl8 c]) rfl
   clear hc HN
   by_cases h1:120≤c.toNat∧c.toNat≤122
   ·have hrc:((replC c.toNat:Nat):Int)=97+c.toNat-120:=by
     unfold replC
     split
     ·omega
     ·split
      ·omega
      ·split<;>omega
    have i1:(120:Int)≤c.toNat:=by omega
    have i2:(c.toNat:Int)≤122:=by omega
    rw [hrc] at hcv HNX
    go_wp2
    go_roundw
    case rel=>exact ⟨k+1,l++[repl8 c],by omega,by go_num,rfl,hl2,HNX⟩
    case measure=>simp [intOf];omega
   ·have hrc:((replC c.toNat:Nat):Int)=c.toNat:=by
     unfold replC
     split
     ·omega
     ·split
      ·omega
      ·split<;>omega
    rw [hrc] at hcv HNX
    have hcmp:((120:Int)≤c.toNat∧¬(c.toNat:Int)≤122)∨¬(120:Int)≤c.toNat:=by omega
    clear h1
    rcases hcmp with ⟨i1,i2⟩|i1
    all_goals (
     go_wp2
     go_roundw
     case rel=>exact ⟨k+1,l++[repl8 c],by omega,by go_num,rfl,hl2,HNX⟩
     case measure=>simp [intOf];omega)
  ·obtain rfl:k=txt.length:=by omega
   have hlm:l=txt.map repl8:=by rw [HR.out.1,List.take_length]
   subst hlm
   have HB:=H_ HR.out.2
   clear HR
   go_wp2_with fail
   refine (spec_ReadKat (txt.map repl8) e _ rfl wr (by simpa using hl) (by rw [List.length_map];exact HP.out) hv).mono ?_
   rintro e' w1 ⟨_,rfl,v,rfl,hb,hown⟩
   have hs1:=hb.size
   have hsw:=HB.out.size
   obtain ⟨a,cap,rfl,hcap,hcm,hc⟩:=hown.sl.open
   have HX:=H_ hown.sl
   obtain ⟨w2,hw2⟩:∃ w2,w2=w1.alloc (.cells #[] 3):=⟨_,rfl⟩
   have hb2:Below w1.heap.size w1 w2:=by rw [hw2];exact (B_ _ _).alloc (le_ _) _
   have hlit:OwnI w1.heap.size (w1.heap.size+1) 3 w2 (.slice (some ⟨w1.heap.size,0,none⟩) 0 0) []:=by rw [hw2];exact Own.lit 1 3 w1 [] 0 (by omega) rfl
   have hs2:w2.heap.size=w1.heap.size+1:=by rw [hw2];simp
   have HI:=H_ (And.intro (hlit.lower (le_ _) (by omega:w1.heap.size+1≤w2.heap.size)) (And.intro (HB.out.trans ((hb.trans (hb2.mono hs1)).mono hsw)) (Outside.of_below (lo:=w1.heap.size) (hi:=w2.heap.size) hb2 (le_ _))))
   have HW2:=H_ hw2
   clear hb hown hb2 hlit hw2 HB
   go_wp2
   simp only [←HW2.out]
   go_loopw [8,9] (fun o i wx=>∃ (j:Nat) (a':Option Addr) (cap':Nat),j≤e.length∧i=.int .i64 j∧o=.slice a' j cap'∧Hid (Own 1 w1.heap.size wx.heap.size 3 wx (.slice a' j cap') j (ints ((e.map toVar).take j))∧Below w.heap.size w wx∧Outside w1.heap.size wx.heap.size w1 wx)) (fun _ i _=>e.length-(intOf i).toNat)
   case atStart=>exact ⟨0,some ⟨w1.heap.size,0,none⟩,0,by omega,rfl,rfl,H_ ⟨HI.out.1,HI.out.2.1,HI.out.2.2⟩⟩
   case round=>
    obtain ⟨j,a',cap',hj,rfl,rfl,HR⟩:=hrel
    by_cases hje:j<e.length
    ·have hXR:=HX.out.outside HR.out.2.2 (.inl (le_ _))
     obtain ⟨b,off,rfl,_,_,_,hcell⟩:=hXR.get j hje
     have hje2:(j:Int)<e.length:=by omega
     have hjm:j<(e.map toVar).length:=by simpa using hje
     have hnx:ints ((e.map toVar).take (j+1))=ints ((e.map toVar).take j)++ints [toVar e[j]]:=by
      rw [←ints_append]
      congr 1
      rw [List.take_add_one,List.getElem?_eq_getElem hjm]
      simp
     have HN:=H_ hnx
     have hown:=HR.out.1
     have hsx:=HR.out.2.2.size
     clear hXR hnx hc
     cases hq:inB e[j] 16 18
     ·have hty:toVar e[j]=e[j]:=by unfold toVar;rw [show isActB e[j]=false from hq];rfl
      have HTY:=H_ hty
      clear hty
      go_wp2_with (first | (go_at_call 101;refine (l1In_any _ _ _ _).mono ?_;rintro e w' ⟨rfl,rfl⟩) | (at_builtin;refine wpList_app_lit _ rfl _ _ 22 rfl 3 (.int .i64 0) 1 8 Tryz.underlying22 info_int rfl (by decide) (by decide) rfl hown 1 (ints [e[j]]) rfl rfl (ints_one _) rfl ?c1 ?c2 ?_))
      case c1=>omega
      case c2=>omega
      intro v' w5 hown5 hout5 _
      obtain ⟨a5,cap5,rfl,_⟩:=Own.open hown5
      have hs5:=hout5.size
      have H5:=H_ (And.intro hown5 (And.intro (Below.outside HR.out.2.1 hout5 (by omega) HR.out.2.1.size) (HR.out.2.2.trans (hout5.wide (le_ _) (le_ _)))))
      clear hown hown5 hout5
      go_wp2
      go_roundw
      case rel=>exact ⟨j+1,a5,cap5,by omega,by go_num,rfl,H_ ⟨by rw [HN.out,HTY.out];exact H5.out.1,H5.out.2.1,H5.out.2.2.wide (le_ _) hs5⟩⟩
      case measure=>simp [intOf];omega
     ·have hty:toVar e[j]=-1-(e[j]-16):=by unfold toVar;rw [show isActB e[j]=true from hq];rfl
      have hbd:16≤e[j]∧e[j]≤18:=by simpa [inB] using hq
      obtain ⟨b16,b18⟩:=hbd
      have HTY:=H_ hty
      clear hty
      go_wp2_with (first | (go_at_call 101;refine (l1In_any _ _ _ _).mono ?_;rintro e w' ⟨rfl,rfl⟩) | (at_builtin;refine wpList_app_lit _ rfl _ _ 22 rfl 3 (.int .i64 0) 1 8 Tryz.underlying22 info_int rfl (by decide) (by decide) rfl hown 1 (ints [-1-(e[j]-16)]) rfl rfl (ints_one _) rfl ?c1 ?c2 ?_))
      case c1=>omega
      case c2=>omega
      intro v' w5 hown5 hout5 _
      obtain ⟨a5,cap5,rfl,_⟩:=Own.open hown5
      have hs5:=hout5.size
      have H5:=H_ (And.intro hown5 (And.intro (Below.outside HR.out.2.1 hout5 (by omega) HR.out.2.1.size) (HR.out.2.2.trans (hout5.wide (le_ _) (le_ _)))))
      clear hown hown5 hout5
      go_wp2
      go_roundw
      case rel=>exact ⟨j+1,a5,cap5,by omega,by go_num,rfl,H_ ⟨by rw [HN.out,HTY.out];exact H5.out.1,H5.out.2.1,H5.out.2.2.wide (le_ _) hs5⟩⟩
      case measure=>simp [intOf];omega
    ·obtain rfl:j=e.length:=by omega
     have h:=HR.out.1
     rw [List.take_of_length_le (by simp)] at h
     go_wp2
     go_ret
     exact RetV.mk _ rfl ⟨HR.out.2.1,OwnI.len (n:=e.length) (Own.wide2 h (by omega) (le_ _)) (by simp)⟩
theorem rule_cut:∀ n,n<21→ruleT.getD n []=sideT n true++61 :: sideT n false∧((sideT n true).all fun c=>c.toNat !=61)=true:=by decide +kernel
def ruleVs:List Value:=ruleT.map fun l=>.string ⟨l.toArray⟩
theorem ruleVs_get {n:Nat} (h:n<21):ruleVs[n]?=some (.string ⟨(ruleT.getD n []).toArray⟩):=by
 have hl:n<ruleT.length:=h
 simp [ruleVs,List.getD,hl]
theorem l9Rules_any (w:World):Calls Tryz.prog 188 #[] w fun e w'=>e=.returned (.slice (some ⟨w.heap.size,0,none⟩) 21 21)∧w'=w.alloc (.cells ruleVs.toArray 9):=by
 go_enter Tryz.func188,Tryz.ntmps188
 go_wp2
 go_ret
 exact ⟨rfl,rfl⟩
theorem ext_pre (a b:List UInt8) (c:UInt8):(ByteArray.mk (a++c :: b).toArray).extract 0 a.length=⟨a.toArray⟩:=by
 apply ByteArray.ext
 simp [ByteArray.data_extract]
theorem ext_suf (a b:List UInt8) (c:UInt8):(ByteArray.mk (a++c :: b).toArray).extract (a.length+1) (a++c :: b).length=⟨b.toArray⟩:=by
 rw [extN]
 congr 2
 rw [show a.length+1=(a++[c]).length by simp,show a++c :: b=(a++[c])++b by simp,List.drop_left]
theorem spec_RuleOf (n:Int) (w:World) :
  Calls Tryz.prog 151 #[.int .i64 n] w (RetRB fun a b c w'=>c=isR n∧Below w.heap.size w w'∧RuleOwn w.heap.size w'.heap.size w' a b (ruleN n true) (ruleN n false)):=by
 obtain ⟨w0,hw0⟩:∃ w0,w0=w.alloc (.cells #[.slice none 0 0,.slice none 0 0] 161):=⟨_,rfl⟩
 obtain ⟨w1,hw1⟩:∃ w1,w1=w0.alloc (.cells ruleVs.toArray 9):=⟨_,rfl⟩
 have hb0:Below w.heap.size w w0:=by rw [hw0];exact (B_ _ _).alloc (le_ _) _
 have hsz:w0.heap.size=w.heap.size+1:=by rw [hw0];simp
 have hb1:Below w0.heap.size w0 w1:=by rw [hw1];exact (B_ _ _).alloc (le_ _) _
 have hsz1:w1.heap.size=w.heap.size+2:=by rw [hw1];simp;omega
 have HB:=H_ (hb0.trans (hb1.mono (by omega)))
 have K:Hid (Blk w.heap.size (.cells #[.slice none 0 0,.slice none 0 0] 161) w1):=H_ (Blk.below (by rw [hw0];exact Blk.new w _) hb1 (by omega))
 have KR:=H_ (show Blk w0.heap.size (.cells ruleVs.toArray 9) w1 by rw [hw1];exact Blk.new w0 _)
 have HW0:=H_ hw0
 have HW1:=H_ hw1
 have HQ:=H_ (show isR n=inB n 0 20 from rfl)
 clear hb0 hb1 hw0 hw1
 cases hq:inB n 0 20
 ·have c0:=K.out.cell 0
  have c1:=K.out.cell 1
  have f0:=K.out.free 0
  have f1:=K.out.free 1
  obtain ⟨wz,hwz⟩:∃ wz,wz=((w1.setCell ⟨w.heap.size,0,none⟩ (.slice none 0 0)).setCell ⟨w.heap.size,1,none⟩ (.slice none 0 0)):=⟨_,rfl⟩
  have KZ:=K.out.set2 (.slice none 0 0) (.slice none 0 0)
  have HO:=H_ (Outside.set2 w.heap.size w1 (.slice none 0 0) (.slice none 0 0))
  rw [←hwz] at KZ HO
  have HZ:=H_ (Below.outside HB.out HO.out (le_ _) HB.out.size)
  have q0:=KZ.cell 0
  have q1:=KZ.cell 1
  have hzs:=HZ.out.size
  have HWZ:=H_ hwz
  clear KZ hwz
  go_enter Tryz.func151,Tryz.ntmps151
  go_wp2_with fail
  simp only [←HW0.out]
  refine (l9Rules_any _).mono ?_
  rintro e wx ⟨rfl,rfl⟩
  rw [←HW1.out]
  go_wp2_with fail
  refine (l1In_any _ _ _ _).mono ?_
  rintro e wx ⟨rfl,rfl⟩
  rw [hq]
  go_wp2
  simp only [←HWZ.out]
  refine bodyPost_ret (v:=.tuple #[.agg #[.slice none 0 0,.slice none 0 0],.bool false]) (by simp [results,Tryz.results151,go_sem,q0,q1]) rfl ⟨_,_,_,rfl,by rw [HQ.out];exact hq.symm,HZ.out,?_⟩
  have h1:ruleN n true=[]:=by simp [ruleN,HQ.out,hq]
  have h2:ruleN n false=[]:=by simp [ruleN,HQ.out,hq]
  rw [h1,h2]
  exact RuleOwn.nil _ _ hzs _
 ·obtain ⟨m,rfl,hm⟩:∃ m:Nat,n=m∧m<21:=⟨n.toNat,by simp [inB] at hq;omega,by simp [inB] at hq;omega⟩
  obtain ⟨eL,pL,vL,sL,lL⟩:=side_open hm true
  obtain ⟨eR,pR,vR,sR,lR⟩:=side_open hm false
  obtain ⟨hcut,hno⟩:=rule_cut m hm
  have PL:=H_ (And.intro pL (And.intro vL sL))
  have PR:=H_ (And.intro pR (And.intro vR sR))
  have ct:w1.cell? ⟨w0.heap.size,m,none⟩=some (.string ⟨(ruleT.getD m []).toArray⟩):=(KR.out.cell m).trans (by rw [List.getElem?_toArray];exact ruleVs_get hm)
  obtain ⟨A,hA⟩:∃ A,A=sideT m true:=⟨_,rfl⟩
  obtain ⟨B,hB⟩:∃ B,B=sideT m false:=⟨_,rfl⟩
  rw [←hA,←hB] at hcut
  rw [←hA] at hno lL PL
  rw [←hB] at lR PR
  rw [hcut,hsz] at ct
  have hmI:(m:Int)<21:=by omega
  have hx1:=ext_pre A B 61
  have hx2:=ext_suf A B 61
  have hlen:(A++61 :: B).length≤41:=by simp;omega
  have hlenA:A.length<(A++61 :: B).length:=by simp
  have h61:∀ hh:A.length<(ByteArray.mk (A++61 :: B).toArray).size,(ByteArray.mk (A++61 :: B).toArray)[A.length]'hh=61:=fun _=>by
   show (A++61 :: B)[A.length]'(by simp)=61
   simp
  have hpre:∀ k (h:k<A.length) (h2:k<(A++61 :: B).length),(A++61 :: B)[k]=A[k]:=fun k h h2=>List.getElem_append_left h
  clear pL vL sL pR vR sR hcut hA hB
  obtain ⟨T,hT⟩:∃ T,T=A++61 :: B:=⟨_,rfl⟩
  rw [←hT] at ct hx1 hx2 hlen hlenA h61 hpre
  clear hT
  have HX:=H_ (And.intro hx1 hx2)
  have HPRE:=H_ hpre
  have H61:=H_ h61
  clear hx1 hx2 hpre h61
  go_enter Tryz.func151,Tryz.ntmps151
  go_wp2_with fail
  simp only [←HW0.out]
  refine (l9Rules_any _).mono ?_
  rintro e wx ⟨rfl,rfl⟩
  rw [←HW1.out]
  go_wp2_with fail
  refine (l1In_any _ _ _ _).mono ?_
  rintro e wx ⟨rfl,rfl⟩
  rw [hq]
  go_wp2
  go_loop [5] (fun i=>∃ k:Nat,k≤A.length∧i=.int .i64 k) (fun i=>A.length-(intOf i).toNat)
  case atStart=>exact ⟨0,by omega,rfl⟩
  case round=>
   obtain ⟨k,hk,rfl⟩:=hrel
   by_cases hlt:k<A.length
   ·have hkl:k<T.length:=by omega
    have hkI:(k:Int)<T.length:=by omega
    obtain ⟨c,hc⟩:∃ c,c=A[k]:=⟨_,rfl⟩
    have hgc:∀ hh:k<(ByteArray.mk T.toArray).size,(ByteArray.mk T.toArray)[k]'hh=c:=fun _=>by
     show T[k]'hkl=c
     rw [HPRE.out k hlt hkl,hc]
    have hcn:((c.toNat:Int) !=61)=true:=by
     have h:=List.all_eq_true.1 hno c (by rw [hc];exact List.getElem_mem _)
     simp at h ⊢
     omega
    clear hc
    go_wp2
    go_round
    case rel=>exact ⟨k+1,by omega,by go_num⟩
    case measure=>simp [intOf];omega
   ·obtain rfl:k=A.length:=by omega
    have hAI:(A.length:Int)<T.length:=by omega
    have h61:=H61.out
    have h61':((61:UInt8).toNat:Int)=61:=rfl
    have hx1:=HX.out.1
    have hx2:=HX.out.2
    have hwr:IntKind.i64.wrap ((A.length:Int)+1)=(A.length:Int)+1:=by simp [IntKind.wrap,IntKind.bits,IntKind.signed];omega
    have hb1:(0:Int)≤(A.length:Int)+1:=by omega
    have hb2:(A.length:Int)+1≤T.length:=by omega
    have hb3:((A.length:Int)+1).toNat=A.length+1:=by omega
    have hb4:(A.length:Int)≤T.length:=by omega
    have hb5:A.length≤T.length:=by omega
    have hb6:A.length+1≤T.length:=by omega
    have ctd:w1.drew.cell? ⟨w.heap.size+1,m,none⟩=some (.string ⟨T.toArray⟩):=ct
    have KD:=H_ (show Blk w.heap.size (.cells #[.slice none 0 0,.slice none 0 0] 161) w1.drew from K.out)
    have hdsz:w1.drew.heap.size=w.heap.size+2:=hsz1
    have HBD:=H_ HB.out.drew
    go_wp2_with fail
    go_region_held3 (fun w'=>w'.cell? ⟨w.heap.size+1,m,none⟩=some (.string ⟨T.toArray⟩)) (first | assumption | go_keep) (first
     | (go_at_call_of 189 A;refine (l9Side_any A eL _ (by omega) PL.out.1 PL.out.2.1).mono ?_;rintro e w2 ⟨v2,rfl,hbx,hown2⟩;obtain ⟨a2,cap2,rfl,_⟩:=Own.open hown2;(have hz2:=hbx.size);(have ct2:w2.cell? ⟨w.heap.size+1,m,none⟩=some (.string ⟨T.toArray⟩):=(hbx.cell (p:=⟨w.heap.size+1,m,none⟩) (by show w.heap.size+1<w1.drew.heap.size;omega)).trans ctd);(have K2:=H_ (KD.out.below hbx KD.out.lt));(have HB2:=H_ (HBD.out.trans (hbx.mono HBD.out.size)));(have HL:=H_ hown2);clear hbx hown2)
     | (go_at_call_of 189 B;refine (l9Side_any B eR _ (by omega) PR.out.1 PR.out.2.1).mono ?_;rintro e w3 ⟨v3,rfl,hbx,hown3⟩;obtain ⟨a3,cap3,rfl,_⟩:=Own.open hown3;(have hz3:=hbx.size);(have ct3:=(hbx.cell (p:=⟨w.heap.size+1,m,none⟩) (by show w.heap.size+1<w2.heap.size;omega)).trans ct2);(have K3:=H_ (K2.out.below hbx K2.out.lt));(have HB3:=H_ (HB2.out.trans (hbx.mono HB2.out.size)));(have HL3:=H_ (HL.out.below hbx (le_ _)));(have HR3:=H_ hown3);(have c0:=K3.out.cell 0);(have c1:=K3.out.cell 1);(have f0:=K3.out.free 0);(have f1:=K3.out.free 1);clear hbx hown3))
    all_goals (
     obtain ⟨wz,hwz⟩:∃ wz,wz=((w3.setCell ⟨w.heap.size,0,none⟩ (.slice a2 eL.length cap2)).setCell ⟨w.heap.size,1,none⟩ (.slice a3 eR.length cap3)):=⟨_,rfl⟩
     have KZ:=K3.out.set2 (.slice a2 eL.length cap2) (.slice a3 eR.length cap3)
     have HO:=H_ (Outside.set2 w.heap.size w3 (.slice a2 eL.length cap2) (.slice a3 eR.length cap3))
     rw [←hwz] at KZ HO
     have HZ:=H_ (Below.outside HB3.out HO.out (le_ _) HB3.out.size)
     have q0:=KZ.cell 0
     have q1:=KZ.cell 1
     have hzs:=HO.out.size
     have g1:ruleN m true=eL.map toVar:=by simp [ruleN,HQ.out,hq,PL.out.2.2]
     have g2:ruleN m false=eR.map toVar:=by simp [ruleN,HQ.out,hq,PR.out.2.2]
     have HG:=H_ (And.intro g1 g2)
     clear KZ g1 g2
     go_wp2
     simp only [←hwz]
     clear hwz
     refine bodyPost_ret (v:=.tuple #[.agg #[.slice a2 eL.length cap2,.slice a3 eR.length cap3],.bool true]) (by simp [results,Tryz.results151,go_sem,q0,q1]) rfl ⟨_,_,_,rfl,by rw [HQ.out];exact hq.symm,HZ.out,?_⟩
     rw [HG.out.1,HG.out.2]
     have h1:=HL3.out
     have h2:=HR3.out
     simp only [List.length_map] at h1 h2
     exact ⟨w2.heap.size,by omega,by omega,(h1.outside HO.out (.inr (by omega))).lower (by omega) (le_ _),(h2.outside HO.out (.inr (by omega))).lower (le_ _) hzs⟩)
end Go.Proofs.YtfnnhimopokpnaaGreatDoor
