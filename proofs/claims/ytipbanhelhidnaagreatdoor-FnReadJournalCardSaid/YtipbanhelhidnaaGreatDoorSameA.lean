/-
  Texts of walks and plain lemmas for this seat; no condition.
-/
import Derived.Test.YtipbanhelhidnaaGreatDoorAcs
import Derived.Test.YtipbanhelhidnaaGreatDoorGB
import Derived.Laws.StructEq
namespace Go.Proofs.YtipbanhelhidnaaGreatDoor
open Go.RowKit

set_option maxHeartbeats 800000 in
theorem sameActs_same (lo hi lo' hi' : Nat) (v v' : Value) (xs : List Ac) (w : World) (hx : SlA lo hi w v xs) (hy : SlA lo' hi' w v' xs) (hm : xs.length ≤ 1048576) :
    Calls Tryz.prog 7 #[v, v'] w fun e w' => e = .returned (.bool true) ∧ Below w.heap.size w w' := by
  have HX := Lib.hid hx
  have HY := Lib.hid hy
  obtain ⟨a, cap, rfl, _, hcm⟩ := hx.shape
  obtain ⟨a', cap', rfl, _, hcm'⟩ := hy.shape
  clear hx hy hcm hcm'
  have hl1 : ((xs.length : Int) != xs.length) = false := by simp
  go_enter Tryz.func7, Tryz.ntmps7
  go_wp2
  go_loopw [5] (fun i wr => ∃ k m : Nat, k ≤ xs.length ∧ i = .int .i64 k ∧ wr = w.drewN m) (fun i _ => xs.length - (intOf i).toNat)
  case atStart => exact ⟨0, 0, by omega, rfl, rfl⟩
  case round =>
    obtain ⟨k, m, hk, rfl, rfl⟩ := hrel
    by_cases hlt : k < xs.length
    · obtain ⟨b, off, rfl, _, _, hbs, c0, c1, c2, c3, c4⟩ := HX.out.get k hlt
      obtain ⟨b', off', rfl, _, _, hbs', c0', c1', c2', c3', c4'⟩ := HY.out.get k hlt
      obtain ⟨A, hA⟩ : ∃ A, A = xs[k] := ⟨_, rfl⟩
      rw [← hA] at c0 c1 c2 c3 c4 c0' c1' c2' c3' c4'
      clear hA
      have e0 : (A.kind == A.kind) = true := by simp
      have e1 : (A.step.which == A.step.which) = true := by simp
      have e2 : (A.step.back == A.step.back) = true := by simp
      have e3 : (A.step.at_ == A.step.at_) = true := by simp
      have e4 : (A.count == A.count) = true := by simp
      go_wp2
      go_quiet (fail)
      go_wp2
      go_roundw
      case rel => exact ⟨k + 1, m + nq, by omega, by go_num, by first | rfl | rw [World.drewN_drewN]⟩
      case measure => simp [intOf]; omega
    · go_wp2
      go_ret
      exact ⟨rfl, below_drewN (Below.refl _ _) _⟩
end Go.Proofs.YtipbanhelhidnaaGreatDoor
