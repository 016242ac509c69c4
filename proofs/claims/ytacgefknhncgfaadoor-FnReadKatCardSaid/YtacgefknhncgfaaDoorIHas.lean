/-
  Texts of walks and plain lemmas for this seat; no condition.
-/
import Derived.Test.YtacgefknhncgfaaDoorGA
import Derived.Test.YtacgefknhncgfaaDoorGB
namespace Go.Proofs.YtacgefknhncgfaaDoor
open Go.RowKit
set_option linter.unusedVariables false

set_option maxHeartbeats 800000 in
theorem containsI (lo hi : Nat) (v : Value) (xs : List Int) (x : Int) (w : World) (hx : SlI lo hi w v xs) (hm : xs.length ≤ 1048576) :
    Calls Tryd.prog 41 #[v, .int .i64 x] w fun e w' => e = .returned (.bool (decide (x ∈ xs))) ∧ w = w' := by
  have HC : Hid (Calls Tryd.prog 48 #[v, .int .i64 x] w fun e w' => ∃ n : Int, e = .returned (.int .i64 n) ∧ (0 ≤ n ↔ x ∈ xs) ∧ w = w') := by
    apply Lib.hid
    obtain ⟨a, cap, rfl, hcap, hcm, _⟩ := hx.open
    have HX := Lib.hid hx
    clear hx hcm hcap
    go_enter Tryd.func48, Tryd.ntmps48
    go_wp2
    go_loop [8] (fun i => ∃ k : Nat, k ≤ xs.length ∧ i = .int .i64 k ∧ Hid (∀ j (h1 : j < k) (h2 : j < xs.length), xs[j] ≠ x)) (fun i => xs.length - (intOf i).toNat)
    case atStart => exact ⟨0, by omega, rfl, Lib.hid (by intro j h; omega)⟩
    case round =>
      obtain ⟨k, hk, rfl, HN⟩ := hrel
      by_cases hlt : k < xs.length
      · obtain ⟨b, off, rfl, _, _, _, hcell⟩ := HX.out.get k hlt
        cases hq : x == xs[k]
        · go_wp2
          go_round
          case rel =>
            refine ⟨k + 1, by omega, by go_num, Lib.hid ?_⟩
            intro j h1 h2
            by_cases hj : j < k
            · exact HN.out j hj h2
            · obtain rfl : j = k := by omega
              intro e
              rw [e] at hq
              simp at hq
          case measure => simp [intOf]; omega
        · have e : x = xs[k] := by simpa using hq
          have hmem : x ∈ xs := by
            rw [e]
            exact List.getElem_mem hlt
          have HI : Hid ((0 : Int) ≤ (k : Int) ↔ x ∈ xs) := Lib.hid ⟨fun _ => hmem, fun _ => by omega⟩
          clear e hmem
          go_wp2
          go_ret
          exact ⟨_, rfl, HI.out, rfl⟩
      · have hno : ¬ x ∈ xs := by
          intro h
          obtain ⟨j, hj, e⟩ := List.getElem_of_mem h
          exact HN.out j (by omega) hj e
        have HI : Hid ((0 : Int) ≤ -1 ↔ x ∈ xs) := Lib.hid ⟨fun h => absurd h (by omega), fun h => absurd h hno⟩
        clear hno
        go_wp2
        go_ret
        exact ⟨_, rfl, HI.out, rfl⟩
  obtain ⟨a, cap, rfl, _, _, _⟩ := hx.open
  clear hx
  go_enter Tryd.func41, Tryd.ntmps41
  go_wp2_with fail
  refine HC.out.mono ?_
  rintro e _ ⟨n, rfl, hn, rfl⟩
  have HN := Lib.hid hn
  clear hn HC
  go_wp2
  go_ret
  have h2 : decide (0 ≤ n) = decide (x ∈ xs) := decide_eq_decide.2 HN.out
  exact ⟨by rw [← h2]; rfl, rfl⟩
end Go.Proofs.YtacgefknhncgfaaDoor
