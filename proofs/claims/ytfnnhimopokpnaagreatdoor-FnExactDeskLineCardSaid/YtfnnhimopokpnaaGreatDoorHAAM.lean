/- Lemmas for this seat; no condition. -/
import Derived.Test.YtfnnhimopokpnaaGreatDoorHAAK
import Derived.Stop.LaidErr
import Derived.Lib.SmallJoins
namespace Go.Proofs.YtfnnhimopokpnaaGreatDoor
open Go.RowKit
set_option maxRecDepth 100000
set_option maxHeartbeats 0
set_option linter.unusedVariables false
def smallsA:ByteArray:=⟨#[48,49,50,51,52,53,54,55,56,57,97,98,99,100,101,102,103,104,105,106,107,108,109,110,111,112,113,114,115,116,117,118,119,120,121,122]⟩
def smallsB:ByteArray:=⟨#[48,48,48,49,48,50,48,51,48,52,48,53,48,54,48,55,48,56,48,57,49,48,49,49,49,50,49,51,49,52,49,53,49,54,49,55,49,56,49,57,50,48,50,49,50,50,50,51,50,52,50,53,50,54,50,55,50,56,50,57,51,48,51,49,51,50,51,51,51,52,51,53,51,54,51,55,51,56,51,57,52,48,52,49,52,50,52,51,52,52,52,53,52,54,52,55,52,56,52,57,53,48,53,49,53,50,53,51,53,52,53,53,53,54,53,55,53,56,53,57,54,48,54,49,54,50,54,51,54,52,54,53,54,54,54,55,54,56,54,57,55,48,55,49,55,50,55,51,55,52,55,53,55,54,55,55,55,56,55,57,56,48,56,49,56,50,56,51,56,52,56,53,56,54,56,55,56,56,56,57,57,48,57,49,57,50,57,51,57,52,57,53,57,54,57,55,57,56,57,57]⟩
theorem smallsA_at:∀ n,n<10→smallsA.extract n (n+1)=⟨(dig2 n).toArray⟩:=by decide +kernel
theorem smallsB_at:∀ n,n<100→10≤n→smallsB.extract (n*2) (n*2+2)=⟨(dig2 n).toArray⟩:=by decide +kernel
theorem small_any (n:Nat) (w:World) (h:n<100) :
  Calls Tryz.prog 204 #[.int .i64 n] w fun e w'=>e=.returned (.string ⟨(dig2 n).toArray⟩)∧w=w':=by
 by_cases h1:n<10
 ·have hk:=H_ (smallsA_at n h1)
  go_enter Tryz.func204,Tryz.ntmps204
  go_wp2
  go_ret
  refine ⟨?_,rfl⟩
  rw [←hk.out]
  rfl
 ·have hk:=H_ (smallsB_at n h (by omega))
  go_enter Tryz.func204,Tryz.ntmps204
  go_wp2
  go_ret
  refine ⟨?_,rfl⟩
  rw [←hk.out]
  rfl
theorem Itoa_any (n:Nat) (w:World) (h:n<100) :
  Calls Tryz.prog 88 #[.int .i64 n] w fun e w'=>e=.returned (.string ⟨(dig2 n).toArray⟩)∧w=w':=by
 go_enter Tryz.func88,Tryz.ntmps88
 go_wp2_with (first | (go_at_call 204;refine (small_any n _ h).mono ?_;rintro e w' ⟨rfl,rfl⟩) | go_in)
 go_ret
 exact ⟨rfl,rfl⟩
theorem Itoa_q (n:Nat) (w:World) (h:n<100) :
  Calls Tryz.prog 88 #[.int .i64 n] w fun e w'=>e=.returned (.string ⟨(dig2 n).toArray⟩)∧w'=w:=
 (Itoa_any n w h).mono fun _ _ h=>⟨h.1,h.2.symm⟩
def mvOk (m:Mv):Bool:=decide (0≤m.which)&&decide (m.which≤20)&&decide (0≤m.at_)&&decide (m.at_≤39)
def mvText (m:Mv):List UInt8:=if mvOk m then (if m.back then [45] else [43])++dig2 m.which.toNat++[64]++dig2 m.at_.toNat else []
theorem dig2_len (n:Nat):(dig2 n).length≤2:=by unfold dig2;split<;>simp
theorem mvText_len (m:Mv):(mvText m).length≤6:=by
 unfold mvText
 split
 ·have h1:=dig2_len m.which.toNat
  have h2:=dig2_len m.at_.toNat
  cases m.back<;>simp<;>omega
 ·simp
theorem mvCat (sg:UInt8) (p q:Nat) (l:List UInt8) (h:l=[sg]++dig2 p++[64]++dig2 q) :
  Ending.returned (.string ({ data:=#[sg] }++{ data:=(dig2 p).toArray }++{ data:=#[64] }++{ data:=(dig2 q).toArray }))=.returned (.string ⟨l.toArray⟩):=by
 show Ending.returned (.string (ByteArray.mk [sg].toArray++ByteArray.mk (dig2 p).toArray++ByteArray.mk [64].toArray++ByteArray.mk (dig2 q).toArray))=_
 rw [ByteArray.mk_append_mk,ByteArray.mk_append_mk,ByteArray.mk_append_mk,h]
theorem impl_MoveText (m:Mv) (w:World) :
  Calls Tryz.prog 93 #[.agg #[.int .i64 m.which,.bool m.back,.int .i64 m.at_]] w fun e w'=>e=.returned (.string ⟨(mvText m).toArray⟩)∧Below w.heap.size w w':=by
 obtain ⟨p,b,q⟩:=m
 have hb:Hid (∀ o,Below w.heap.size w (w.alloc o)):=H_ fun o=>(B_ _ _).alloc (le_ _) _
 by_cases h1:0≤p∧p≤20
 ·by_cases h2:0≤q
  ·by_cases h3:q≤39
   ·obtain ⟨p,rfl⟩:∃ n:Nat,p=n:=⟨p.toNat,by omega⟩
    obtain ⟨q,rfl⟩:∃ n:Nat,q=n:=⟨q.toNat,by omega⟩
    have hp:p<100:=by omega
    have hq:q<100:=by omega
    have hp':p≤20:=by omega
    have hq':q≤39:=by omega
    have l1:=dig2_len p
    have l2:=dig2_len q
    have HT:=H_ (show mvText ⟨p,b,q⟩=(if b then [45] else [43])++dig2 p++[64]++dig2 q by simp [mvText,mvOk];omega)
    clear h1 h2 h3
    cases b
    ·go_enter Tryz.func93,Tryz.ntmps93
     go_wp2
     go_quiet ((go_at_call 88;exact Calls.quiet_of_same (Itoa_q _ _ (by assumption))))
     go_wp2
     go_ret
     exact ⟨mvCat 43 p q _ HT.out,below_drewN (hb.out _) _⟩
    ·go_enter Tryz.func93,Tryz.ntmps93
     go_wp2
     go_quiet ((go_at_call 88;exact Calls.quiet_of_same (Itoa_q _ _ (by assumption))))
     go_wp2
     go_ret
     exact ⟨mvCat 45 p q _ HT.out,below_drewN (hb.out _) _⟩
   ·have HT:=H_ (show mvText ⟨p,b,q⟩=[] by simp [mvText,mvOk];omega)
    go_enter Tryz.func93,Tryz.ntmps93
    go_wp2
    go_ret
    exact ⟨ret_str (a:=[]) (by rw [HT.out]),hb.out _⟩
  ·have HT:=H_ (show mvText ⟨p,b,q⟩=[] by simp [mvText,mvOk];omega)
   go_enter Tryz.func93,Tryz.ntmps93
   go_wp2
   go_ret
   exact ⟨ret_str (a:=[]) (by rw [HT.out]),hb.out _⟩
 ·have HT:=H_ (show mvText ⟨p,b,q⟩=[] by simp [mvText,mvOk];omega)
  by_cases h2:0≤p
  ·have h3:20<p:=by omega
   clear h1
   go_enter Tryz.func93,Tryz.ntmps93
   go_wp2
   go_ret
   exact ⟨ret_str (a:=[]) (by rw [HT.out]),hb.out _⟩
  ·clear h1
   go_enter Tryz.func93,Tryz.ntmps93
   go_wp2
   go_ret
   exact ⟨ret_str (a:=[]) (by rw [HT.out]),hb.out _⟩
def undig:List UInt8→Option Nat
 | [a]=>if 48≤a.toNat∧a.toNat≤57 then some (a.toNat-48) else none
 | [a,b]=>if 48≤a.toNat∧a.toNat≤57∧48≤b.toNat∧b.toNat≤57 then some ((a.toNat-48)*10+(b.toNat-48)) else none
 | _=>none
theorem undig_dig:∀ n,n<100→undig (dig2 n)=some n:=by decide +kernel
def deMv:List UInt8→Option Mv
 | []=>none
 | c :: r=>
  match undig (r.takeWhile (· !=64)),undig ((r.dropWhile (· !=64)).drop 1) with
  | some p,some q=>some ⟨p,c==45,q⟩
  | _,_=>none
def readMv (s:List UInt8):Option Mv:=(deMv s).filter fun m=>mvOk m&&mvText m==s
theorem mvOk_nat {m:Mv} (h:mvOk m=true):∃ p q:Nat,p≤20∧q≤39∧m=⟨p,m.back,q⟩:=by
 obtain ⟨p,b,q⟩:=m
 simp [mvOk] at h
 exact ⟨p.toNat,q.toNat,by omega,by omega,by simp;omega⟩
theorem deMv_all:∀ p,p<21→∀ q,q<40→∀ b:Bool,deMv (mvText ⟨(p:Nat),b,(q:Nat)⟩)=some ⟨(p:Nat),b,(q:Nat)⟩:=by decide +kernel
theorem deMv_text {m:Mv} (h:mvOk m=true):deMv (mvText m)=some m:=by
 obtain ⟨p,q,hp,hq,e⟩:=mvOk_nat h
 rw [e]
 exact deMv_all p (by omega) q (by omega) _
theorem readMv_iff (s:List UInt8) (m:Mv):readMv s=some m↔mvOk m=true∧mvText m=s:=by
 unfold readMv
 rw [Option.filter_eq_some_iff]
 constructor
 ·rintro ⟨_,h⟩
  simpa using h
 ·rintro ⟨h1,h2⟩
  subst h2
  exact ⟨deMv_text h1,by simp [h1]⟩
theorem readMv_none {s:List UInt8} (h:∀ m,mvOk m=true→mvText m≠s):readMv s=none:=by
 cases he:readMv s with
 | none=>rfl
 | some m=>exact absurd ((readMv_iff s m).1 he).2 (h m ((readMv_iff s m).1 he).1)
theorem mvText_pos {m:Mv} (h:mvText m≠[]):mvOk m=true:=by
 cases hk:mvOk m
 ·simp [mvText,hk] at h
 ·rfl
theorem mvText_of {m:Mv} (h:mvOk m=true):mvText m≠[]:=by
 simp [mvText,h]
theorem ofNat_cast (a:Nat):UInt8.ofNat ((48:Int)+(a:Int)).toNat=UInt8.ofNat (48+a):=by
 congr 1
theorem l9Number_any (n:Nat) (w:World) (h:n<100) :
  Calls Tryz.prog 104 #[.int .i64 n] w fun e w'=>e=.returned (.string ⟨(dig2 n).toArray⟩)∧Below w.heap.size w w':=by
 by_cases h1:n<10
 ·have HT:=H_ (show dig2 n=[UInt8.ofNat ((48:Int)+(n:Int)).toNat] by rw [ofNat_cast];simp [dig2,h1])
  have hcv:=conv_lit (P:=Tryz.prog) 40 9 5 Tryz.underlying40 Tryz.underlying5 Tryz.underlying9 w [48+(n:Int)]
  simp only [List.length_cons,List.length_nil,List.map_cons,List.map_nil,Nat.zero_add] at hcv
  go_enter Tryz.func104,Tryz.ntmps104
  go_wp2
  go_ret
  exact ⟨ret_str HT.out.symm,(B_ _ _).alloc (le_ _) _⟩
 ·obtain ⟨a,ha,ha2⟩:∃ a:Nat,(n:Int)/10=a∧n/10=a:=⟨n/10,by omega,rfl⟩
  obtain ⟨b,hb,hb2⟩:∃ b:Nat,(n:Int)%10=b∧n%10=b:=⟨n%10,by omega,rfl⟩
  have ba:a≤9:=by omega
  have bb:b≤9:=by omega
  have HT:=H_ (show dig2 n=[UInt8.ofNat ((48:Int)+(a:Int)).toNat,UInt8.ofNat ((48:Int)+(b:Int)).toNat] by rw [ofNat_cast,ofNat_cast];simp [dig2,h1,ha2,hb2])
  have hcv:=conv_lit (P:=Tryz.prog) 40 9 5 Tryz.underlying40 Tryz.underlying5 Tryz.underlying9 w [48+(a:Int),48+(b:Int)]
  simp only [List.length_cons,List.length_nil,List.map_cons,List.map_nil,Nat.zero_add,Nat.reduceAdd] at hcv
  clear ha2 hb2
  go_enter Tryz.func104,Tryz.ntmps104
  go_wp2
  go_ret
  exact ⟨ret_str HT.out.symm,(B_ _ _).alloc (le_ _) _⟩
def MvS (w:World) (p q:Int) (w':World):Prop:=w'.cell? ⟨w.heap.size,0,none⟩=some (.int .i64 p)∧w'.cell? ⟨w.heap.size,2,none⟩=some (.int .i64 q)∧w.heap.size<w'.heap.size∧Below w.heap.size w w'
theorem MvS.start (w:World) (p q:Int) (b:Bool) (e:TypeId):MvS w p q (w.alloc (.cells #[.int .i64 p,.bool b,.int .i64 q] e)).drew:=by
 refine ⟨?_,?_,?_,((B_ _ _).alloc (le_ _) _).drew⟩
 ·exact (Blk.new w _).cell 0
 ·exact (Blk.new w _).cell 2
 ·simp
theorem MvS.step {w x w1:World} {p q:Int} (h:x.cell? ⟨w.heap.size,0,none⟩=some (.int .i64 p)∧x.cell? ⟨w.heap.size,2,none⟩=some (.int .i64 q)∧w.heap.size<x.heap.size∧Below w.heap.size w x) (hb:Below x.heap.size x w1):MvS w p q w1:=
 ⟨(hb.cell h.2.2.1).trans h.1,(hb.cell h.2.2.1).trans h.2.1,Nat.lt_of_lt_of_le h.2.2.1 hb.size,h.2.2.2.trans (hb.mono (Nat.le_of_lt h.2.2.1))⟩
theorem MvS.bel {w x:World} {p q:Int} (h:x.cell? ⟨w.heap.size,0,none⟩=some (.int .i64 p)∧x.cell? ⟨w.heap.size,2,none⟩=some (.int .i64 q)∧w.heap.size<x.heap.size∧Below w.heap.size w x):Below w.heap.size w x:=h.2.2.2
theorem spec_MoveText (m:Mv) (w:World) :
  Calls Tryz.prog 61 #[.agg #[.int .i64 m.which,.bool m.back,.int .i64 m.at_]] w fun e w'=>e=.returned (.string ⟨(mvText m).toArray⟩)∧Below w.heap.size w w':=by
 obtain ⟨p,b,q⟩:=m
 have hb:Hid (∀ o,Below w.heap.size w (w.alloc o)):=H_ fun o=>(B_ _ _).alloc (le_ _) _
 cases h1:inB p 0 20
 ·have HT:=H_ (show mvText ⟨p,b,q⟩=[] by simp [inB] at h1;simp [mvText,mvOk];omega)
  go_enter Tryz.func61,Tryz.ntmps61
  go_wp2_with (go_at_call 101;refine (l1In_any _ _ _ _).mono ?_;rintro e w' ⟨rfl,rfl⟩)
  go_ret
  exact ⟨ret_str (a:=[]) (by rw [HT.out]),hb.out _⟩
 ·cases h2:inB q 0 39
  ·have HT:=H_ (show mvText ⟨p,b,q⟩=[] by simp [inB] at h2;simp [mvText,mvOk];omega)
   go_enter Tryz.func61,Tryz.ntmps61
   go_wp2_with (go_at_call 101;refine (l1In_any _ _ _ _).mono ?_;rintro e w' ⟨rfl,rfl⟩)
   go_ret
   exact ⟨ret_str (a:=[]) (by rw [HT.out]),hb.out _⟩
  ·have g1:0≤p∧p≤20:=by simpa [inB] using h1
   have g2:0≤q∧q≤39:=by simpa [inB] using h2
   obtain ⟨p,rfl⟩:∃ n:Nat,p=n:=⟨p.toNat,by omega⟩
   obtain ⟨q,rfl⟩:∃ n:Nat,q=n:=⟨q.toNat,by omega⟩
   have hp:p<100:=by omega
   have hq:q<100:=by omega
   have l1:=dig2_len p
   have l2:=dig2_len q
   have HT:=H_ (show mvText ⟨p,b,q⟩=(if b then [45] else [43])++dig2 p++[64]++dig2 q by simp [mvText,mvOk];omega)
   have b1:¬9223372036854775807<1+(dig2 p).length:=by omega
   have b2:¬9223372036854775807<1+(dig2 p).length+1:=by omega
   have b3:¬9223372036854775807<1+(dig2 p).length+1+(dig2 q).length:=by omega
   clear g1 g2
   cases b
   ·go_enter Tryz.func61,Tryz.ntmps61
    go_wp2_with (first | (go_at_call 101;refine (l1In_any _ _ _ _).mono ?_;rintro e w' ⟨rfl,rfl⟩))
    go_region_held3 (fun w'=>w'.cell? ⟨w.heap.size,0,none⟩=some (.int .i64 p)∧w'.cell? ⟨w.heap.size,2,none⟩=some (.int .i64 q)∧w.heap.size<w'.heap.size∧Below w.heap.size w w') (first | assumption | exact MvS.start _ _ _ _ _ | exact MvS.step (by assumption) (by assumption))
     (first | ((go_at_call 104;refine (l9Number_any _ _ (by assumption)).mono ?_;rintro e w1 ⟨rfl,hb1⟩)))
    go_wp2
    go_ret
    exact ⟨mvCat 43 p q _ HT.out,MvS.bel (by assumption)⟩
   ·go_enter Tryz.func61,Tryz.ntmps61
    go_wp2_with (first | (go_at_call 101;refine (l1In_any _ _ _ _).mono ?_;rintro e w' ⟨rfl,rfl⟩))
    go_region_held3 (fun w'=>w'.cell? ⟨w.heap.size,0,none⟩=some (.int .i64 p)∧w'.cell? ⟨w.heap.size,2,none⟩=some (.int .i64 q)∧w.heap.size<w'.heap.size∧Below w.heap.size w w') (first | assumption | exact MvS.start _ _ _ _ _ | exact MvS.step (by assumption) (by assumption))
     (first | ((go_at_call 104;refine (l9Number_any _ _ (by assumption)).mono ?_;rintro e w1 ⟨rfl,hb1⟩)))
    go_wp2
    go_ret
    exact ⟨mvCat 45 p q _ HT.out,MvS.bel (by assumption)⟩
def backT:List UInt8:=[98,97,99,107,32]
def simpleT:List UInt8:=[115,105,109,112,108,101]
def actText (a:Ac):List UInt8:=if namedB a then (if a.kind==0 then mvText a.step else if a.kind==1 then (if 0≤a.count∧a.count≤99 then backT++dig2 a.count.toNat else []) else simpleT) else []
theorem backCat (p:Nat) (l:List UInt8) (h:l=backT++dig2 p) :
  Ending.returned (.string ({ data:=#[98,97,99,107,32] }++{ data:=(dig2 p).toArray }))=.returned (.string ⟨l.toArray⟩):=by
 show Ending.returned (.string (ByteArray.mk [98,97,99,107,32].toArray++ByteArray.mk (dig2 p).toArray))=_
 rw [ByteArray.mk_append_mk,h];rfl
structure Env (w:World):Prop where
 most:∃ m,w.cell? ⟨4,0,none⟩=some (.int .i64 m)
 syn:∃ a b,w.cell? ⟨2,0,none⟩=some (.iface a b)
 rng:∃ a b,w.cell? ⟨3,0,none⟩=some (.iface a b)
theorem Env.below {w w':World} (h:Env w) (hb:Below w.heap.size w w'):Env w':=by
 obtain ⟨⟨m,h1⟩,⟨a,b,h2⟩,⟨c,d,h3⟩⟩:=h
 exact ⟨⟨m,(hb.cell (World.block_lt_of_cell? w _ h1)).trans h1⟩,⟨a,b,(hb.cell (World.block_lt_of_cell? w _ h2)).trans h2⟩,⟨c,d,(hb.cell (World.block_lt_of_cell? w _ h3)).trans h3⟩⟩
theorem star : "*" ++ "errors.errorString" = "*errors.errorString" := by decide
theorem rowErr (u : TypeId) (h : Tryz.prog.typeName? 3 u = some "*errors.errorString") : u = 229 :=
 typeName_ptr_named (nm := "errors.errorString") (by rw [star]; kernel_rfl) (by kernel_rfl) (by decide) u (by rw [star]; exact h)
theorem most_of {w:World} (h:w.ShapedOpen Tryz.prog):∃ m,w.cell? ⟨4,0,none⟩=some (.int .i64 m):=
 cell_of_shapedOpen_int (zero:=#[.int .i64 0]) (t:=3) h (of_decide_eq_true (by kernel_rfl)) (by kernel_rfl) rfl (by kernel_rfl) (by kernel_rfl) Tryz.underlying3
theorem err_of {n : String} {text : List UInt8} {r : List (String × DataW Unit)} {W : World} {g : Nat} (h : laidMet Tryz.prog ((n, .iface "*errors.errorString" (.ptr (.agg [.lit (.string text)]))) :: r) W) (hg : Tryz.prog.globalNamed n = some g)
  (ht:(Tryz.prog.globals[g]?).map (·.type)=some 106):∃ a b,W.cell? ⟨g,0,none⟩=some (.iface a b):=by
 obtain ⟨a0,t0,hv0,hc0,ht0,_⟩:=laid_sentinel (g:=g) h hg ht Tryz.underlying106 rowErr Tryz.underlying229 Tryz.underlying231 rfl rfl Tryz.underlying9 (by kernel_rfl) (by kernel_rfl)
 exact ⟨_,_,by simpa using World.var?_cell hg hv0 0⟩
def atoiV (l:List UInt8):Option Int:=match Lib.atoiAll l with | .ok v=>some v | _=>none
theorem Atoi_ok (l:List UInt8) (s:ByteArray) (hs:s=⟨l.toArray⟩) (v:Int) (w:World) (hl:l.length≤2097152) (h:atoiV l=some v) :
  Calls Tryz.prog 85 #[.string s] w fun e w'=>e=.returned (.tuple #[.int .i64 v,.nilIface])∧Below w.heap.size w w':=by
 subst hs
 have h':Lib.atoiAll l=.ok v:=by
  unfold atoiV at h
  split at h
  ·rename_i he;rw [he];simpa using h
  ·cases h
 refine (Tryz.strconv_Atoi_ok ⟨l.toArray⟩ (by show l.toArray.size≤_;simp;omega) v h' w).mono ?_
 rintro e w' ⟨rfl,rfl|⟨t,rfl⟩⟩
 ·exact ⟨rfl,B_ _ _⟩
 ·exact ⟨rfl,Lib.bytesWorld_below _ _ _⟩
def RetNE (P:World→Prop) (e:Ending) (w':World):Prop:=∃ n t p,e=.returned (.tuple #[.int .i64 n,.iface t p])∧P w'
theorem Atoi_bad (l:List UInt8) (s:ByteArray) (hs:s=⟨l.toArray⟩) (w:World) (hE:Env w) (hl:l.length≤2097152) (h:atoiV l=none) :
  Calls Tryz.prog 85 #[.string s] w (RetNE fun w'=>Below w.heap.size w w'):=by
 subst hs
 have hz:(⟨l.toArray⟩:ByteArray).size≤281474976710656:=by show l.toArray.size≤_;simp;omega
 cases h':Lib.atoiAll l with
 | ok v=>simp [atoiV,h'] at h
 | «syntax»=>
  obtain ⟨a,b,hv⟩:=hE.syn
  refine (Tryz.strconv_Atoi_syntax ⟨l.toArray⟩ hz h' _ w hv (.inr ⟨a,b,rfl⟩)).mono ?_
  rintro e w' ⟨N,rfl,_,_,hb⟩
  exact ⟨_,_,_,rfl,hb⟩
 | range=>
  obtain ⟨a,b,hv⟩:=hE.rng
  refine (Tryz.strconv_Atoi_range ⟨l.toArray⟩ hz h' _ w hv (.inr ⟨a,b,rfl⟩)).mono ?_
  rintro e w' ⟨N,rfl,_,_,hb⟩
  exact ⟨_,_,_,rfl,hb⟩
theorem Cut_any (l p:List UInt8) (s sep:ByteArray) (hs:s=⟨l.toArray⟩) (hp:sep=⟨p.toArray⟩) (w:World) (hE:Env w) (hl:l.length≤2097152) :
  Calls Tryz.prog 127 #[.string s,.string sep] w fun e w'=>e=.returned (.tuple #[.string ⟨(Lib.cut l p).1.toArray⟩,.string ⟨(Lib.cut l p).2.1.toArray⟩,.bool (Lib.cut l p).2.2])∧Below w.heap.size w w':=by
 subst hs hp
 obtain ⟨m,hm⟩:=hE.most
 refine (Tryz.strings_Cut ⟨l.toArray⟩ ⟨p.toArray⟩ m w (by show l.toArray.size<_;simp;omega) hm).mono ?_
 rintro e w' ⟨rfl,n,rfl⟩
 exact ⟨rfl,below_drewN (B_ _ _) _⟩
def zeroMv:Mv:=⟨0,false,0⟩
def rdMv (o:Option Mv):Value:=.tuple #[.agg #[.int .i64 (o.getD zeroMv).which,.bool (o.getD zeroMv).back,.int .i64 (o.getD zeroMv).at_],.bool o.isSome]
theorem cut_dig:∀ p,p<21→∀ q,q<40→Lib.cut (dig2 p++[64]++dig2 q) [64]=(dig2 p,dig2 q,true):=by decide +kernel
theorem atoi_dig:∀ n,n<100→atoiV (dig2 n)=some (n:Int):=by decide +kernel
theorem mvText_parts {m:Mv} (h:mvOk m=true):∃ c r,mvText m=c :: r∧atoiV (Lib.cut r [64]).1=some m.which∧atoiV (Lib.cut r [64]).2.1=some m.at_∧(c==45)=m.back:=by
 obtain ⟨p,q,hp,hq,e⟩:=mvOk_nat h
 have ht:mvText m=(if m.back then [45] else [43])++dig2 p++[64]++dig2 q:=by
  unfold mvText;rw [if_pos h,e];simp
 have hc:=cut_dig p (by omega) q (by omega)
 refine ⟨if m.back then 45 else 43,dig2 p++[64]++dig2 q,?_,?_,?_,?_⟩
 ·rw [ht];cases m.back<;>simp
 ·rw [hc];rw [e];exact atoi_dig p (by omega)
 ·rw [hc];rw [e];exact atoi_dig q (by omega)
 ·cases m.back<;>rfl
theorem rd_nil:readMv []=none:=readMv_none fun _ h e=>mvText_of h e
theorem rd_bad1 {c:UInt8} {r:List UInt8} (h:atoiV (Lib.cut r [64]).1=none):readMv (c :: r)=none:=
 readMv_none fun m hm e=>by
  obtain ⟨c',r',h1,h2,_⟩:=mvText_parts hm
  rw [e] at h1;injection h1 with _ h1;subst h1
  rw [h] at h2;cases h2
theorem rd_bad2 {c:UInt8} {r:List UInt8} (h:atoiV (Lib.cut r [64]).2.1=none):readMv (c :: r)=none:=
 readMv_none fun m hm e=>by
  obtain ⟨c',r',h1,_,h2,_⟩:=mvText_parts hm
  rw [e] at h1;injection h1 with _ h1;subst h1
  rw [h] at h2;cases h2
theorem rd_yes {c:UInt8} {r:List UInt8} {m:Mv} (h:mvText m=c :: r):readMv (c :: r)=some m:=
 (readMv_iff _ _).2 ⟨mvText_pos (by rw [h];simp),h⟩
theorem rd_no {c:UInt8} {r:List UInt8} {a b:Int} (h1:atoiV (Lib.cut r [64]).1=some a) (h2:atoiV (Lib.cut r [64]).2.1=some b) (h:mvText ⟨a,c==45,b⟩≠c :: r):readMv (c :: r)=none:=
 readMv_none fun m hm e=>by
  obtain ⟨c',r',g1,g2,g3,g4⟩:=mvText_parts hm
  rw [e] at g1;injection g1 with g0 g1;subst g0 g1
  rw [h1] at g2;rw [h2] at g3
  injection g2 with g2;injection g3 with g3
  obtain ⟨p,b',q⟩:=m
  simp only at g2 g3 g4
  subst g2 g3 g4
  exact h e
theorem cut_len (l p:List UInt8):(Lib.cut l p).1.length≤l.length∧(Lib.cut l p).2.1.length≤l.length:=by
 unfold Lib.cut
 split<;>simp
 omega
theorem ext1 (c:UInt8) (r:List UInt8):ByteArray.extract ⟨(c :: r).toArray⟩ 1 (r.length+1)=⟨r.toArray⟩:=by
 apply ByteArray.ext
 simp [ByteArray.data_extract]
theorem idx0 (c:UInt8) (r:List UInt8) (h:0<(ByteArray.mk (c :: r).toArray).size):(ByteArray.mk (c :: r).toArray)[0]'h=c:=rfl
theorem eq45 (c:UInt8):((c.toNat:Int)==45)=(c==45):=by
 rw [Bool.eq_iff_iff]
 simp only [beq_iff_eq]
 constructor
 ·intro h;apply UInt8.toNat_inj.1;simpa using (by omega:c.toNat=45)
 ·intro h;subst h;rfl
theorem Below.set3 {B g:Nat} {a w:World} (h:Below B a w) (hB:B≤g) (x y z:Value):Below B a (((w.setCell ⟨g,0,none⟩ x).setCell ⟨g,1,none⟩ y).setCell ⟨g,2,none⟩ z):=
 ((h.setCell (p:=⟨g,0,none⟩) hB x).setCell (p:=⟨g,1,none⟩) hB y).setCell (p:=⟨g,2,none⟩) hB z
theorem impl_ReadMove (l:List UInt8) (s:ByteArray) (hs:s=⟨l.toArray⟩) (w:World) (hE:Env w) (hl:l.length≤2097152) :
  Calls Tryz.prog 83 #[.string s] w fun e w'=>e=.returned (rdMv (readMv l))∧Below w.heap.size w w':=by
 subst hs
 have hb0:Hid (∀ o,Below w.heap.size w (w.alloc o)):=H_ fun o=>(B_ _ _).alloc (le_ _) _
 cases l with
 | nil=>
  go_enter Tryz.func83,Tryz.ntmps83
  go_wp2
  rw [rd_nil]
  refine bodyPost_ret (v:=rdMv none) (by simp [results,Tryz.results83,go_sem,rdMv,zeroMv]) rfl ⟨rfl,hb0.out _⟩
 | cons c r=>
  obtain ⟨w0,hw0⟩:∃ w0,w0=w.alloc (.cells #[.int .i64 0,.bool false,.int .i64 0] 67):=⟨_,rfl⟩
  have HB:Hid (Below w.heap.size w w0):=by rw [hw0];exact hb0.out _ |> H_
  have K:Hid (Blk w.heap.size (.cells #[.int .i64 0,.bool false,.int .i64 0] 67) w0):=by rw [hw0];exact H_ (Blk.new w _)
  have HE:Hid (Env w0):=by rw [hw0];exact H_ (hE.below (hb0.out _))
  obtain ⟨hc1,hc2⟩:=cut_len r [64]
  have hr:r.length≤2097151:=by simpa using hl
  clear hE hb0
  go_enter Tryz.func83,Tryz.ntmps83
  go_wp2_with fail
  simp only [←hw0]
  clear hw0
  refine (Cut_any r [64] _ _ (ext1 c r) rfl _ HE.out (by omega)).mono ?_
  rintro e w1 ⟨rfl,hb⟩
  replace HE:=H_ (HE.out.below hb)
  replace K:=H_ (K.out.below hb K.out.lt)
  replace HB:=H_ (HB.out.trans (hb.mono HB.out.size))
  clear hb
  obtain ⟨p1,hp1⟩:∃ p,p=(Lib.cut r [64]).1:=⟨_,rfl⟩
  obtain ⟨p2,hp2⟩:∃ p,p=(Lib.cut r [64]).2.1:=⟨_,rfl⟩
  obtain ⟨p3,hp3⟩:∃ p,p=(Lib.cut r [64]).2.2:=⟨_,rfl⟩
  rw [←hp1,←hp2,←hp3]
  rw [←hp1] at hc1
  rw [←hp2] at hc2
  have HP1:=H_ hp1
  have HP2:=H_ hp2
  clear hp1 hp2 hp3
  cases ha:atoiV p1 with
  | none=>
   have HR:=H_ (rd_bad1 (c:=c) (r:=r) (by rw [←HP1.out];exact ha))
   go_wp2_with fail
   refine (Atoi_bad p1 _ rfl _ HE.out (by omega) ha).mono ?_
   rintro e w2 ⟨n,t,p,rfl,hb⟩
   replace K:=H_ (K.out.below hb K.out.lt)
   replace HB:=H_ (HB.out.trans (hb.mono HB.out.size))
   clear hb ha
   obtain ⟨wz,hwz⟩:∃ wz,wz=(((w2.setCell ⟨w.heap.size,0,none⟩ (.int .i64 0)).setCell ⟨w.heap.size,1,none⟩ (.bool false)).setCell ⟨w.heap.size,2,none⟩ (.int .i64 0)):=⟨_,rfl⟩
   have KZ:=K.out.set3 (.int .i64 0) (.bool false) (.int .i64 0)
   have HZ:=H_ (Below.set3 HB.out (le_ _) (.int .i64 0) (.bool false) (.int .i64 0))
   rw [←hwz] at KZ HZ
   have q0:=KZ.cell 0
   have q1:=KZ.cell 1
   have q2:=KZ.cell 2
   clear KZ
   have c0:=K.out.cell 0
   have c1:=K.out.cell 1
   have c2:=K.out.cell 2
   have f0:=K.out.free 0
   have f1:=K.out.free 1
   have f2:=K.out.free 2
   go_wp2
   simp only [←hwz]
   clear hwz
   rw [HR.out]
   refine bodyPost_ret (v:=rdMv none) (by simp [results,Tryz.results83,go_sem,q0,q1,q2,rdMv,zeroMv]) rfl ⟨rfl,HZ.out⟩
  | some a=>
   go_wp2_with fail
   refine (Atoi_ok p1 _ rfl a _ (by omega) ha).mono ?_
   rintro e w2 ⟨rfl,hb⟩
   replace HE:=H_ (HE.out.below hb)
   replace K:=H_ (K.out.below hb K.out.lt)
   replace HB:=H_ (HB.out.trans (hb.mono HB.out.size))
   have HA:=H_ ha
   clear hb ha
   cases ha:atoiV p2 with
   | none=>
    have HR:=H_ (rd_bad2 (c:=c) (r:=r) (by rw [←HP2.out];exact ha))
    go_wp2_with fail
    refine (Atoi_bad p2 _ rfl _ HE.out (by omega) ha).mono ?_
    rintro e w3 ⟨n,t,p,rfl,hb⟩
    replace K:=H_ (K.out.below hb K.out.lt)
    replace HB:=H_ (HB.out.trans (hb.mono HB.out.size))
    clear hb ha
    obtain ⟨wz,hwz⟩:∃ wz,wz=(((w3.setCell ⟨w.heap.size,0,none⟩ (.int .i64 0)).setCell ⟨w.heap.size,1,none⟩ (.bool false)).setCell ⟨w.heap.size,2,none⟩ (.int .i64 0)):=⟨_,rfl⟩
    have KZ:=K.out.set3 (.int .i64 0) (.bool false) (.int .i64 0)
    have HZ:=H_ (Below.set3 HB.out (le_ _) (.int .i64 0) (.bool false) (.int .i64 0))
    rw [←hwz] at KZ HZ
    have q0:=KZ.cell 0
    have q1:=KZ.cell 1
    have q2:=KZ.cell 2
    clear KZ
    have c0:=K.out.cell 0
    have c1:=K.out.cell 1
    have c2:=K.out.cell 2
    have f0:=K.out.free 0
    have f1:=K.out.free 1
    have f2:=K.out.free 2
    go_wp2
    simp only [←hwz]
    clear hwz
    rw [HR.out]
    refine bodyPost_ret (v:=rdMv none) (by simp [results,Tryz.results83,go_sem,q0,q1,q2,rdMv,zeroMv]) rfl ⟨rfl,HZ.out⟩
   | some b=>
    go_wp2_with fail
    refine (Atoi_ok p2 _ rfl b _ (by omega) ha).mono ?_
    rintro e w3 ⟨rfl,hb⟩
    replace HE:=H_ (HE.out.below hb)
    replace K:=H_ (K.out.below hb K.out.lt)
    replace HB:=H_ (HB.out.trans (hb.mono HB.out.size))
    have HA2:=H_ ha
    clear hb ha
    go_wp2_with fail
    simp only [idx0,eq45]
    obtain ⟨bk,hbk⟩:∃ bk,bk=(c==45):=⟨_,rfl⟩
    rw [←hbk]
    obtain ⟨w4,hw4⟩:∃ w4,w4=w3.alloc (.cells #[.int .i64 a,.bool bk,.int .i64 b] 67):=⟨_,rfl⟩
    rw [←hw4]
    have hb:Below w3.heap.size w3 w4:=by rw [hw4];exact (B_ _ _).alloc (le_ _) _
    have K4:Hid (Blk w3.heap.size (.cells #[.int .i64 a,.bool bk,.int .i64 b] 67) w4):=by rw [hw4];exact H_ (Blk.new _ _)
    replace K:=H_ (K.out.below hb K.out.lt)
    have hsz3:=HB.out.size
    replace HB:=H_ (HB.out.trans (hb.mono HB.out.size))
    have HBK:=H_ hbk
    clear hb hw4 hbk HE
    refine (impl_MoveText ⟨a,bk,b⟩ _).mono ?_
    rintro e w5 ⟨rfl,hb⟩
    replace K:=H_ (K.out.below hb K.out.lt)
    replace K4:=H_ (K4.out.below hb K4.out.lt)
    replace HB:=H_ (HB.out.trans (hb.mono HB.out.size))
    clear hb
    have d0:=K4.out.cell 0
    have d1:=K4.out.cell 1
    have d2:=K4.out.cell 2
    cases hq:(mvText ⟨a,bk,b⟩==c :: r)
    ·have HR:=H_ (rd_no (c:=c) (r:=r) (by rw [←HP1.out];exact HA.out) (by rw [←HP2.out];exact HA2.out) (by rw [←HBK.out];simpa using hq))
     obtain ⟨wz,hwz⟩:∃ wz,wz=(((w5.setCell ⟨w.heap.size,0,none⟩ (.int .i64 0)).setCell ⟨w.heap.size,1,none⟩ (.bool false)).setCell ⟨w.heap.size,2,none⟩ (.int .i64 0)):=⟨_,rfl⟩
     have KZ:=K.out.set3 (.int .i64 0) (.bool false) (.int .i64 0)
     have HZ:=H_ (Below.set3 HB.out (le_ _) (.int .i64 0) (.bool false) (.int .i64 0))
     rw [←hwz] at KZ HZ
     have q0:=KZ.cell 0
     have q1:=KZ.cell 1
     have q2:=KZ.cell 2
     clear KZ
     have c0:=K.out.cell 0
     have c1:=K.out.cell 1
     have c2:=K.out.cell 2
     have f0:=K.out.free 0
     have f1:=K.out.free 1
     have f2:=K.out.free 2
     go_wp2
     simp only [←hwz]
     clear hwz
     rw [HR.out]
     refine bodyPost_ret (v:=rdMv none) (by simp [results,Tryz.results83,go_sem,q0,q1,q2,rdMv,zeroMv]) rfl ⟨rfl,HZ.out⟩
    ·have HR:=H_ (rd_yes (c:=c) (r:=r) (m:=⟨a,bk,b⟩) (by simpa using hq))
     obtain ⟨wz,hwz⟩:∃ wz,wz=(((w5.setCell ⟨w.heap.size,0,none⟩ (.int .i64 a)).setCell ⟨w.heap.size,1,none⟩ (.bool bk)).setCell ⟨w.heap.size,2,none⟩ (.int .i64 b)):=⟨_,rfl⟩
     have KZ:=K.out.set3 (.int .i64 a) (.bool bk) (.int .i64 b)
     have HZ:=H_ (Below.set3 HB.out (le_ _) (.int .i64 a) (.bool bk) (.int .i64 b))
     rw [←hwz] at KZ HZ
     have q0:=KZ.cell 0
     have q1:=KZ.cell 1
     have q2:=KZ.cell 2
     clear KZ
     have c0:=K.out.cell 0
     have c1:=K.out.cell 1
     have c2:=K.out.cell 2
     have f0:=K.out.free 0
     have f1:=K.out.free 1
     have f2:=K.out.free 2
     go_wp2
     simp only [←hwz]
     clear hwz
     rw [HR.out]
     refine bodyPost_ret (v:=rdMv (some ⟨a,bk,b⟩)) (by simp [results,Tryz.results83,go_sem,q0,q1,q2,rdMv,zeroMv]) rfl ⟨rfl,HZ.out⟩
def rdAc (o:Option Ac):Value:=.tuple #[.agg #[.int .i64 (o.getD zAc).kind,.int .i64 (o.getD zAc).step.which,.bool (o.getD zAc).step.back,.int .i64 (o.getD zAc).step.at_,.int .i64 (o.getD zAc).count],.bool o.isSome]
def deBack (l:List UInt8):Option Nat:=(undig (l.drop 5)).filter fun n=>decide (n<100)&&(backT++dig2 n==l)
def readAc (l:List UInt8):Option Ac:=match readMv l with
 | some m=>some ⟨0,m,0⟩
 | none=>if l==simpleT then some ⟨2,zeroMv,0⟩ else (deBack l).map fun n=>⟨1,zeroMv,n⟩
theorem deBack_iff (l:List UInt8) (n:Nat):deBack l=some n↔n<100∧backT++dig2 n=l:=by
 unfold deBack
 rw [Option.filter_eq_some_iff]
 constructor
 ·rintro ⟨_,h⟩
  simpa using h
 ·rintro ⟨h1,h2⟩
  subst h2
  refine ⟨?_,by simp [h1]⟩
  rw [List.drop_left' (by rfl)]
  exact undig_dig n h1
theorem deBack_none {l:List UInt8} (h:∀ n,n<100→backT++dig2 n≠l):deBack l=none:=by
 cases he:deBack l with
 | none=>rfl
 | some n=>exact absurd ((deBack_iff l n).1 he).2 (h n ((deBack_iff l n).1 he).1)
theorem cut_back:∀ n,n<100→Lib.hasPrefix (backT++dig2 n) backT=true∧Lib.trimPrefix (backT++dig2 n) backT=dig2 n:=by decide +kernel
theorem db_no1 {l:List UInt8} (h:Lib.hasPrefix l backT=false):deBack l=none:=
 deBack_none fun n hn e=>by have:=(cut_back n hn).1;rw [e,h] at this;cases this
theorem db_no2 {l:List UInt8} (h:atoiV (Lib.trimPrefix l backT)=none):deBack l=none:=
 deBack_none fun n hn e=>by have:=(cut_back n hn).2;rw [e] at this;rw [this,atoi_dig n hn] at h;cases h
theorem actBack (n:Int):actText ⟨1,zeroMv,n⟩=if 0≤n∧n≤99 then backT++dig2 n.toNat else []:=by rfl
theorem db_no3 {l:List UInt8} {n:Int} (h:atoiV (Lib.trimPrefix l backT)=some n) (hne:actText ⟨1,zeroMv,n⟩≠l):deBack l=none:=
 deBack_none fun k hk e=>by
  have:=(cut_back k hk).2
  rw [e] at this
  rw [this,atoi_dig k hk] at h
  injection h with h
  subst h
  rw [actBack,if_pos (by omega)] at hne
  exact hne e
theorem db_yes {l:List UInt8} {n:Int} (h:actText ⟨1,zeroMv,n⟩=l) (hl:l≠[]):0≤n∧n≤99∧deBack l=some n.toNat:=by
 rw [actBack] at h
 split at h
 ·rename_i hn
  exact ⟨hn.1,hn.2,(deBack_iff l _).2 ⟨by omega,h⟩⟩
 ·exact absurd h.symm hl
theorem mvText_head {m:Mv} {c:UInt8} {r:List UInt8} (h:mvText m=c :: r):c=43∨c=45:=by
 have hk:mvOk m=true:=mvText_pos (by rw [h];simp)
 unfold mvText at h
 rw [if_pos hk] at h
 cases hb:m.back<;>simp [hb] at h<;>simp [←h.1]
theorem readMv_simple:readMv simpleT=none:=readMv_none fun m hm e=>by
 rcases mvText_head e with h|h<;>cases h
theorem readMv_back {n:Nat} {l:List UInt8} (h:backT++dig2 n=l):readMv l=none:=readMv_none fun m hm e=>by
 rw [←h] at e
 rcases mvText_head (c:=98) (r:=[97,99,107,32]++dig2 n) e with h|h<;>cases h
theorem ra_move {l:List UInt8} {m:Mv} (h:readMv l=some m):readAc l=some ⟨0,m,0⟩:=by simp [readAc,h]
theorem ra_simple {l:List UInt8} (h:l=simpleT):readAc l=some ⟨2,zeroMv,0⟩:=by subst h;simp [readAc,readMv_simple]
theorem ra_none {l:List UInt8} (h1:readMv l=none) (h2:(l==simpleT)=false) (h3:deBack l=none):readAc l=none:=by simp [readAc,h1,h2,h3]
theorem ra_back {l:List UInt8} {n:Nat} (h3:deBack l=some n):readAc l=some ⟨1,zeroMv,n⟩:=by
 have h:=((deBack_iff l n).1 h3).2
 have h1:=readMv_back h
 have h2:(l==simpleT)=false:=by
  rw [←h];rfl
 simp [readAc,h1,h2,h3]
theorem Blk.set5 {g:Nat} {e:TypeId} {w:World} {x0 x1 x2 x3 x4:Value} (h:Blk g (.cells #[x0,x1,x2,x3,x4] e (0,0)) w) (a b c d f:Value) :
  Blk g (.cells #[a,b,c,d,f] e (0,0)) (((((w.setCell ⟨g,0,none⟩ a).setCell ⟨g,1,none⟩ b).setCell ⟨g,2,none⟩ c).setCell ⟨g,3,none⟩ d).setCell ⟨g,4,none⟩ f):=by
 have h':w.heap[g]?=_:=h
 show (((((w.setCell ⟨g,0,none⟩ a).setCell ⟨g,1,none⟩ b).setCell ⟨g,2,none⟩ c).setCell ⟨g,3,none⟩ d).setCell ⟨g,4,none⟩ f).heap[g]?=_
 simp [World.setCell,Array.getElem?_modify,h']
theorem Below.set5 {B g:Nat} {a w:World} (h:Below B a w) (hB:B≤g) (x y z u v:Value):Below B a (((((w.setCell ⟨g,0,none⟩ x).setCell ⟨g,1,none⟩ y).setCell ⟨g,2,none⟩ z).setCell ⟨g,3,none⟩ u).setCell ⟨g,4,none⟩ v):=
 ((((h.setCell (p:=⟨g,0,none⟩) hB x).setCell (p:=⟨g,1,none⟩) hB y).setCell (p:=⟨g,2,none⟩) hB z).setCell (p:=⟨g,3,none⟩) hB u).setCell (p:=⟨g,4,none⟩) hB v
theorem rdMv_some (m:Mv):rdMv (some m)=.tuple #[.agg #[.int .i64 m.which,.bool m.back,.int .i64 m.at_],.bool true]:=rfl
theorem rdMv_none:rdMv none=.tuple #[.agg #[.int .i64 0,.bool false,.int .i64 0],.bool false]:=rfl
theorem rdAc_none:rdAc none=.tuple #[.agg #[.int .i64 0,.int .i64 0,.bool false,.int .i64 0,.int .i64 0],.bool false]:=rfl
end Go.Proofs.YtfnnhimopokpnaaGreatDoor
