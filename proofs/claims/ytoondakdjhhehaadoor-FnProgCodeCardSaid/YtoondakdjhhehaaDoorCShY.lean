/-
  Texts of walks and plain lemmas for this seat; no condition.
-/
import Derived.Test.YtoondakdjhhehaaDoorCIns
import Derived.Test.YtoondakdjhhehaaDoorGB
import Derived.Test.YtoondakdjhhehaaDoorAliveT
import Derived.Test.YtoondakdjhhehaaDoorGA
import Derived.Laws.StructEq
import Derived.Deep.QuietTactic
import Derived.Lib.BufferMore
import Derived.Laws.OwnMore
namespace Go.Proofs.YtoondakdjhhehaaDoor
open Go.RowKit

set_option maxRecDepth 100000 in
set_option maxHeartbeats 1600000 in
theorem sameCode_any (la ha lb hb : Nat) (va vb : Value) (xs : List In3) (w : World) (hx : SlC la ha w va xs) (hy : SlC lb hb w vb xs) (hm : xs.length ≤ 1048576) :
    Calls Tryd.prog 14 #[va, vb] w fun e w' => e = .returned (.bool true) ∧ Below w.heap.size w w' := by
  obtain ⟨a, ca, rfl, _, _⟩ := hx.shape
  obtain ⟨b, cb, rfl, _, _⟩ := hy.shape
  have HX := Lib.hid hx
  have HY := Lib.hid hy
  clear hx hy
  have hl1 : ((xs.length : Int) != xs.length) = false := by simp
  go_enter Tryd.func14, Tryd.ntmps14
  go_wp2
  go_loopw [5] (fun i wr => ∃ k m : Nat, k ≤ xs.length ∧ i = .int .i64 k ∧ wr = w.drewN m) (fun i _ => xs.length - (intOf i).toNat)
  case atStart => exact ⟨0, 0, by omega, rfl, rfl⟩
  case round =>
    obtain ⟨k, m, hk, rfl, rfl⟩ := hrel
    by_cases hlt : k < xs.length
    · obtain ⟨b1, o1, rfl, _, _, _, q0, q1, q2⟩ := HX.out.get k hlt
      obtain ⟨b2, o2, rfl, _, _, _, r0, r1, r2⟩ := HY.out.get k hlt
      obtain ⟨A, hA⟩ : ∃ A, A = xs[k] := ⟨_, rfl⟩
      rw [← hA] at q0 q1 q2 r0 r1 r2
      clear hA
      have e0 : (A.kind == A.kind) = true := by simp
      have e1 : (A.arg == A.arg) = true := by simp
      have e2 : (A.to == A.to) = true := by simp
      go_wp2
      go_quiet (fail)
      go_wp2
      go_roundw
      case rel => exact ⟨k + 1, m + nq, by omega, by go_num, by first | rfl | rw [World.drewN_drewN]⟩
      case measure => simp [intOf]; omega
    · go_wp2
      go_ret
      exact ⟨rfl, below_drewN (Below.refl _ _) _⟩
end Go.Proofs.YtoondakdjhhehaaDoor
