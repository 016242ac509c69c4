/-
  Texts of walks and plain lemmas for this seat; no condition.
-/
import Derived.Test.YtnpnpafdklcjmaaDoorAct
import Derived.Test.YtnpnpafdklcjmaaDoorMText2
import Derived.Test.YtnpnpafdklcjmaaDoorToMv
namespace Go.Proofs.YtnpnpafdklcjmaaDoor
open Go.RowKit

set_option maxHeartbeats 1600000 in
theorem toAct_any (a : Ac) (w : World) :
    Calls Tryd.prog 10 #[.agg #[.int .i64 a.kind, .int .i64 a.step.which, .bool a.step.back, .int .i64 a.step.at_, .int .i64 a.count]] w fun e w' => e = .returned (.agg #[.int .i64 a.kind, .int .i64 a.step.which, .bool a.step.back, .int .i64 a.step.at_, .int .i64 a.count]) ∧ Below w.heap.size w w' := by
  obtain ⟨k, m, c⟩ := a
  go_enter Tryd.func10, Tryd.ntmps10
  go_wp2_with (first | go_in)
  refine bodyPost_ret (v := .agg #[.int .i64 m.which, .bool m.back, .int .i64 m.at_]) (by simp [results, Tryd.results7, go_sem]) rfl ?_
  go_wp2
  refine bodyPost_ret (v := .agg #[.int .i64 k, .int .i64 m.which, .bool m.back, .int .i64 m.at_, .int .i64 c]) (by simp [results, Tryd.results10, go_sem]) rfl ⟨rfl, ?_⟩
  exact ((((((Below.refl _ _).alloc (Nat.le_refl _) _).alloc (by simp) _).alloc (by simp; omega) _).alloc (by simp; omega) _).alloc (by simp; omega) _).alloc (by simp; omega) _

def backT : List UInt8 := [98, 97, 99, 107, 32]
def simpleT : List UInt8 := [115, 105, 109, 112, 108, 101]
def actText (a : Ac) : List UInt8 := if namedB a then (if a.kind == 0 then mvText a.step else if a.kind == 1 then (if 0 ≤ a.count ∧ a.count ≤ 99 then backT ++ dig2 a.count.toNat else []) else simpleT) else []
theorem backCat (p : Nat) (l : List UInt8) (h : l = backT ++ dig2 p) :
    Ending.returned (.string ({ data := #[98, 97, 99, 107, 32] } ++ { data := (dig2 p).toArray })) = .returned (.string ⟨l.toArray⟩) := by
  show Ending.returned (.string (ByteArray.mk [98, 97, 99, 107, 32].toArray ++ ByteArray.mk (dig2 p).toArray)) = _
  rw [ByteArray.mk_append_mk, h]; rfl
end Go.Proofs.YtnpnpafdklcjmaaDoor
