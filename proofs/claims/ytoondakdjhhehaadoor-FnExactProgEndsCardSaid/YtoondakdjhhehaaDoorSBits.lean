/-
  Texts of walks and plain lemmas for this seat; no condition.
-/
import Derived.Test.YtoondakdjhhehaaDoorGQ
import Derived.Test.YtoondakdjhhehaaDoorGA
import Derived.Deep.QuietTactic
namespace Go.Proofs.YtoondakdjhhehaaDoor
open Go.RowKit

def bitI (t k : Nat) : Int := if t.testBit k then 1 else 0
theorem bitI_cases (t k : Nat) : bitI t k = 0 ∨ bitI t k = 1 := by unfold bitI; split <;> simp
theorem bit_div (t k : Nat) : ((t : Int) / 2 ^ k).tmod 2 = bitI t k := by
  unfold bitI
  rw [show ((t : Int) / 2 ^ k) = ((t / 2 ^ k : Nat) : Int) by push_cast; rfl, Nat.testBit_eq_decide_div_mod_eq]
  have := Nat.mod_two_eq_zero_or_one (t / 2 ^ k)
  rw [show (((t / 2 ^ k : Nat) : Int).tmod 2) = ((t / 2 ^ k % 2 : Nat) : Int) from by rw [Int.tmod_eq_emod_of_nonneg (Int.natCast_nonneg _)]; rfl]
  rcases this with h | h <;> rw [h] <;> rfl
set_option maxHeartbeats 800000 in
theorem l1BitG (t k : Nat) (_ht : t < 1099511627776) (hk : k ≤ 60) (w : World) : Calls Tryd.prog 45 #[.int .i64 t, .int .i64 k] w fun e w' => e = .returned (.int .i64 (bitI t k)) ∧ w = w' := by
  have HB := Lib.hid (bit_div t k)
  go_enter Tryd.func45, Tryd.ntmps45
  go_wp2
  go_ret
  exact ⟨ret_int HB.out, rfl⟩

theorem and_mod_succ (a b k : Nat) : (((a &&& b) % 2 ^ (k + 1) : Nat) : Int) = (((a &&& b) % 2 ^ k : Nat) : Int) + bitI a k * bitI b k * 2 ^ k := by
  have h2 : (a &&& b).testBit k = (a.testBit k && b.testBit k) := Nat.testBit_and a b k
  have h5 : (a &&& b) / 2 ^ k % 2 = if a.testBit k && b.testBit k then 1 else 0 := by
    rw [Nat.testBit_eq_decide_div_mod_eq] at h2
    have h6 := Nat.mod_two_eq_zero_or_one ((a &&& b) / 2 ^ k)
    cases h7 : (a.testBit k && b.testBit k)
    · rw [h7] at h2
      have := of_decide_eq_false h2
      simp; omega
    · rw [h7] at h2
      have := of_decide_eq_true h2
      simp; omega
  rw [Nat.mod_pow_succ, h5]
  unfold bitI
  cases a.testBit k <;> cases b.testBit k <;> simp
theorem pow_wrap20 : ∀ {k : Nat}, k < 21 → wrap64 (2 ^ k) = ((2 ^ k : Nat) : Int) := by decide +kernel
set_option maxRecDepth 100000 in
set_option maxHeartbeats 1600000 in
theorem l1BothG (a b : Nat) (ha : a < 1048576) (hb : b < 1048576) (w : World) : Calls Tryd.prog 65 #[.int .i64 a, .int .i64 b] w fun e w' => e = .returned (.int .i64 ((a &&& b : Nat) : Int)) ∧ w = w' := by
  go_enter Tryd.func65, Tryd.ntmps65
  go_wp2
  go_loop [5, 6] (fun o i => ∃ k : Nat, k ≤ 20 ∧ i = .int .i64 k ∧ o = .int .i64 (((a &&& b) % 2 ^ k : Nat) : Int)) (fun _ i => 20 - (intOf i).toNat)
  case atStart => exact ⟨0, by omega, rfl, by rw [Nat.pow_zero, Nat.mod_one]; rfl⟩
  case round =>
    obtain ⟨k, hk, rfl, rfl⟩ := hrel
    obtain ⟨K, hK⟩ : ∃ K : Nat, K = 2 ^ k := ⟨_, rfl⟩
    have pw := pow_wrap20 (k := k) (by omega)
    have HS := Lib.hid (and_mod_succ a b k)
    rw [← hK] at pw HS
    rw [← hK]
    obtain ⟨o, ho⟩ : ∃ o, o = (a &&& b) % K := ⟨_, rfl⟩
    have hoK : o < K := by rw [ho, hK]; exact Nat.mod_lt _ (Nat.two_pow_pos k)
    rw [← ho]
    rw [← ho] at HS
    have ho20 : o < 1048576 := by
      rw [ho]
      exact Nat.lt_of_le_of_lt (Nat.mod_le _ _) (Nat.lt_of_le_of_lt Nat.and_le_left ha)
    have HL : Hid (a < K ∨ b < K → o = a &&& b) := Lib.hid fun h => by
      rw [ho]
      have h1 : a &&& b ≤ a := Nat.and_le_left
      have h2 : a &&& b ≤ b := Nat.and_le_right
      exact Nat.mod_eq_of_lt (by omega)
    have hK20 : K ≤ 1048576 := by rw [hK]; exact Nat.pow_le_pow_right (n := 2) (by omega) (show k ≤ 20 from hk)
    have HK20 : Hid (k = 20 → K = 1048576) := Lib.hid fun h => by rw [hK, h]
    have HKi : Hid ((2 : Int) ^ k = (K : Int)) := Lib.hid (by rw [hK]; push_cast; rfl)
    clear hK ho
    by_cases h1 : K ≤ a
    · by_cases h2 : K ≤ b
      · have hk20 : k < 20 := by
          rcases Nat.lt_or_ge k 20 with h | h
          · exact h
          · have := HK20.out (by omega)
            omega
        go_wp2_with fail
        refine (l1BitG a k (by omega) (by omega) _).mono ?_
        rintro e _ ⟨rfl, rfl⟩
        rw [HKi.out] at HS
        rcases bitI_cases a k with h3 | h3 <;> rw [h3] at HS ⊢
        all_goals
          clear h3
          go_wp2_with fail
          refine (l1BitG b k (by omega) (by omega) _).mono ?_
          rintro e _ ⟨rfl, rfl⟩
          rcases bitI_cases b k with h4 | h4 <;> rw [h4] at HS ⊢
          all_goals
            clear h4
            go_wp2
            go_round
            case rel => exact ⟨k + 1, by omega, by go_num, by rw [HS.out]; simp⟩
            case measure => simp [intOf]; omega
      · have HE := Lib.hid (HL.out (by omega))
        go_wp2
        go_ret
        exact ⟨ret_int (by rw [HE.out]), rfl⟩
    · have HE := Lib.hid (HL.out (by omega))
      go_wp2
      go_ret
      exact ⟨ret_int (by rw [HE.out]), rfl⟩
end Go.Proofs.YtoondakdjhhehaaDoor
