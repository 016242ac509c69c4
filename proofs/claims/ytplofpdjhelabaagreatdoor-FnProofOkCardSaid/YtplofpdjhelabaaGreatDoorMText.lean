/-
  Texts of walks and plain lemmas for this seat; no condition.
-/
import Derived.Test.YtplofpdjhelabaaGreatDoorGA
import Derived.Test.YtplofpdjhelabaaGreatDoorItoa
import Derived.Deep.QuietTactic
import Derived.BigQuiet
import Derived.Deep.RegionWith
namespace Go.Proofs.YtplofpdjhelabaaGreatDoor
open Go.RowKit

def mvOk (m : Mv) : Bool := decide (0 ≤ m.which) && decide (m.which ≤ 20) && decide (0 ≤ m.at_) && decide (m.at_ ≤ 39)
def mvText (m : Mv) : List UInt8 := if mvOk m then (if m.back then [45] else [43]) ++ dig2 m.which.toNat ++ [64] ++ dig2 m.at_.toNat else []
theorem dig2_len (n : Nat) : (dig2 n).length ≤ 2 := by unfold dig2; split <;> simp
theorem dig2_pos (n : Nat) : 1 ≤ (dig2 n).length := by unfold dig2; split <;> simp

theorem mvText_len (m : Mv) : (mvText m).length ≤ 6 := by
  unfold mvText
  split
  · have h1 := dig2_len m.which.toNat
    have h2 := dig2_len m.at_.toNat
    cases m.back <;> simp <;> omega
  · simp

theorem mvCat (sg : UInt8) (p q : Nat) (l : List UInt8) (h : l = [sg] ++ dig2 p ++ [64] ++ dig2 q) :
    Ending.returned (.string ({ data := #[sg] } ++ { data := (dig2 p).toArray } ++ { data := #[64] } ++ { data := (dig2 q).toArray })) = .returned (.string ⟨l.toArray⟩) := by
  show Ending.returned (.string (ByteArray.mk [sg].toArray ++ ByteArray.mk (dig2 p).toArray ++ ByteArray.mk [64].toArray ++ ByteArray.mk (dig2 q).toArray)) = _
  rw [ByteArray.mk_append_mk, ByteArray.mk_append_mk, ByteArray.mk_append_mk, h]
end Go.Proofs.YtplofpdjhelabaaGreatDoor
