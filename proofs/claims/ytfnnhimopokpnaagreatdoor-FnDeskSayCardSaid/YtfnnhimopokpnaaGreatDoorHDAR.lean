/- Lemmas for this seat; no condition. -/
import Derived.Test.YtfnnhimopokpnaaGreatDoorHDAL
namespace Go.Proofs.YtfnnhimopokpnaaGreatDoor
open Go.RowKit Proofs.Tryz
set_option maxRecDepth 100000
set_option maxHeartbeats 0
set_option linter.all false
inductive Rch(c:List In3):Nat->Prop where
 | zero:Rch c 0
 | next {a:Nat}:Rch c a->(insAt c a).kind<2->Rch c (a+1)
 | tO {a:Nat}:Rch c a->((insAt c a).kind=1\/(insAt c a).kind=2)->Rch c (insAt c a).tO.toNat
theorem Rch.lt{c:List In3}(hc:Code0 c){a:Nat}(h:Rch c a):a<c.length:=by
 induction h with
 | zero=>have:=hc.pos;omega
 | next _ hk ih=>exact hc.succ_lt ih hk
 | tO _ hk ih=>exact hc.to_lt ih hk
section
variable {c:List In3} (hc:Code0 c)
include hc
end
end Go.Proofs.YtfnnhimopokpnaaGreatDoor
