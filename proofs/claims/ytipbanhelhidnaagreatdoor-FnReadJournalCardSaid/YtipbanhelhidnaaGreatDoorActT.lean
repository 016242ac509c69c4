/-
  Texts of walks and plain lemmas for this seat; no condition.
-/
import Derived.Test.YtipbanhelhidnaaGreatDoorAct
import Derived.Test.YtipbanhelhidnaaGreatDoorMText2
namespace Go.Proofs.YtipbanhelhidnaaGreatDoor
open Go.RowKit

def backT : List UInt8 := [98, 97, 99, 107, 32]
def simpleT : List UInt8 := [115, 105, 109, 112, 108, 101]
def actText (a : Ac) : List UInt8 := if namedB a then (if a.kind == 0 then mvText a.step else if a.kind == 1 then (if 0 ≤ a.count ∧ a.count ≤ 99 then backT ++ dig2 a.count.toNat else []) else simpleT) else []
theorem backCat (p : Nat) (l : List UInt8) (h : l = backT ++ dig2 p) :
    Ending.returned (.string ({ data := #[98, 97, 99, 107, 32] } ++ { data := (dig2 p).toArray })) = .returned (.string ⟨l.toArray⟩) := by
  show Ending.returned (.string (ByteArray.mk [98, 97, 99, 107, 32].toArray ++ ByteArray.mk (dig2 p).toArray)) = _
  rw [ByteArray.mk_append_mk, h]; rfl
end Go.Proofs.YtipbanhelhidnaaGreatDoor
