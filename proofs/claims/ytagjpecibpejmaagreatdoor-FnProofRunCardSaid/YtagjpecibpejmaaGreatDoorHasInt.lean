/-
  Texts of walks and plain lemmas for this seat; no condition.
-/
import Derived.Test.YtagjpecibpejmaaGreatDoorGA
import Derived.Test.YtagjpecibpejmaaGreatDoorGB
import Derived.Deep.QuietTactic
import Derived.BigQuiet
namespace Go.Proofs.YtagjpecibpejmaaGreatDoor
open Go.RowKit

set_option maxHeartbeats 800000 in
theorem hasInt_any (lo hi : Nat) (v : Value) (xs : List Int) (n : Int) (w : World) (hx : SlI lo hi w v xs) (hm : xs.length ≤ 1048576) :
    Calls Tryz.prog 27 #[v, .int .i64 n] w fun e w' => e = .returned (.bool (decide (n ∈ xs))) ∧ w = w' := by
  obtain ⟨a, cap, rfl, hcap, hcm, hc⟩ := hx.open
  clear hx hcm hcap
  go_enter Tryz.func27, Tryz.ntmps27
  go_wp2
  go_loop [5] (fun i => ∃ k : Nat, k ≤ xs.length ∧ i = .int .i64 k ∧ Hid (∀ j (h1 : j < k) (h2 : j < xs.length), xs[j] ≠ n)) (fun i => xs.length - (intOf i).toNat)
  case atStart => exact ⟨0, by omega, rfl, Lib.hid (by intro j h; omega)⟩
  case round =>
    obtain ⟨k, hk, rfl, HN⟩ := hrel
    by_cases hlt : k < xs.length
    · obtain ⟨b, off, rfl, _, _, _, hcell⟩ := hc k hlt
      clear hc
      by_cases he : xs[k] = n
      · have HT := Lib.hid (show decide (n ∈ xs) = true by simp; rw [← he]; exact List.getElem_mem hlt)
        have he1 : (xs[k] == n) = true := by simp [he]
        clear he
        go_wp2
        go_ret
        exact ⟨ret_bool HT.out.symm, rfl⟩
      · have he1 : (xs[k] == n) = false := by simp [he]
        have HE := Lib.hid he
        clear he
        go_wp2
        go_round
        case rel =>
          refine ⟨k + 1, by omega, by go_num, Lib.hid fun j h1 h2 => ?_⟩
          rcases Nat.lt_or_ge j k with h | h
          · exact HN.out j h h2
          · obtain rfl : j = k := by omega
            exact HE.out
        case measure => simp [intOf]; omega
    · have HT := Lib.hid (show decide (n ∈ xs) = false by
        simp
        intro h
        obtain ⟨j, hj, hje⟩ := List.getElem_of_mem h
        exact HN.out j (by omega) hj hje)
      go_wp2
      go_ret
      exact ⟨ret_bool HT.out.symm, rfl⟩

set_option maxHeartbeats 800000 in
theorem ascend_true (lo hi : Nat) (v : Value) (xs : List Int) (w : World) (hx : SlI lo hi w v xs) (hm : xs.length ≤ 1048576) (hp : xs.Pairwise (· < ·)) :
    Calls Tryz.prog 32 #[v] w fun e w' => e = .returned (.bool true) ∧ Below w.heap.size w w' := by
  have HP := Lib.hid hp
  obtain ⟨a, cap, rfl, hcap, hcm, hc⟩ := hx.open
  clear hx hcm hcap hp
  go_enter Tryz.func32, Tryz.ntmps32
  go_wp2
  go_loopw [3] (fun i wr => ∃ k m : Nat, k ≤ xs.length ∧ i = .int .i64 (k + 1 : Nat) ∧ wr = w.drewN m) (fun i _ => xs.length + 1 - (intOf i).toNat)
  case atStart => exact ⟨0, 0, by omega, rfl, rfl⟩
  case round =>
    obtain ⟨k, m, hk, rfl, rfl⟩ := hrel
    by_cases hlt : k + 1 < xs.length
    · obtain ⟨b, off, rfl, _, _, _, hcell⟩ := hc (k + 1) hlt
      obtain ⟨b', off', hbe, _, _, _, hcell'⟩ := hc k (by omega)
      injection hbe with hbe
      injection hbe with hb1 hb2 _
      subst hb1 hb2
      have hlt2 : xs[k] < xs[k + 1] := List.pairwise_iff_getElem.1 HP.out k (k + 1) (by omega) hlt (by omega)
      have hge : ¬ xs[k + 1] ≤ xs[k] := by omega
      have hki : ((k + 1 : Nat) : Int) - 1 = (k : Int) := by omega
      have hk2 : k < xs.length := by omega
      clear hc
      go_wp2
      go_quiet (fail)
      go_wp2
      go_roundw
      case rel => exact ⟨k + 1, m + nq, by omega, by go_num, by first | rfl | rw [World.drewN_drewN]⟩
      case measure => simp [intOf]; omega
    · go_wp2
      go_ret
      exact ⟨rfl, below_drewN (Below.refl _ _) _⟩
end Go.Proofs.YtagjpecibpejmaaGreatDoor
