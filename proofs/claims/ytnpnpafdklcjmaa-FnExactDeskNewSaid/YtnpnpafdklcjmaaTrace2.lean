/-
  Texts of walks and plain lemmas for this seat; no condition.
-/
import Derived.Test.YtnpnpafdklcjmaaTrace
namespace Go.Proofs.Ytnpnpafdklcjmaa
open Go.RowKit

theorem tvSpec (xs : List Int) (k : Nat) (h : k < xs.length) (hp : k % 2 = 0) : tvAt k xs[k] = inB xs[k] 0 3 := by
  simp [tvAt, hp, isAtomB, inB]
theorem tvSpec' (xs : List Int) (k : Nat) (h : k < xs.length) (hp : ¬ k % 2 = 0) : tvAt k xs[k] = inB xs[k] 16 18 := by
  simp [tvAt, hp, isActB, inB]

set_option maxHeartbeats 400000 in
theorem spec_TraceValid (lo hi : Nat) (v : Value) (xs : List Int) (w : World) (hx : SlI lo hi w v xs) (hm : xs.length ≤ 1048576) :
    Calls Try.prog 20 #[v] w fun e w' => e = .returned (.bool (traceV xs)) ∧ w = w' := by
  obtain ⟨a, cap, rfl, hcap, hcm, hc⟩ := hx.open
  clear hx hcm hcap
  go_enter Try.func20, Try.ntmps20
  go_wp2
  go_loop [3] (fun i => ∃ k : Nat, k ≤ xs.length ∧ i = .int .i64 k ∧ Hid (tvAll k (xs.drop k) = tvAll 0 xs)) (fun i => xs.length - (intOf i).toNat)
  case atStart => exact ⟨0, by omega, rfl, Lib.hid rfl⟩
  case round =>
    obtain ⟨k, hk, rfl, HT⟩ := hrel
    by_cases hlt : k < xs.length
    · obtain ⟨b, off, rfl, _, _, _, hcell⟩ := hc k hlt
      have HS := Lib.hid (tvAll_step xs k hlt)
      clear hc
      by_cases hp : k % 2 = 0
      · have hp1 : ((k : Int) % 2 == 0) = true := by simp; omega
        have hp2 : ((k : Int) % 2 == 1) = false := by simp; omega
        have HV := Lib.hid (tvSpec xs k hlt hp)
        clear hp
        cases hv : inB xs[k] 0 3
        · go_wp2_with (go_at_call 35; refine (l1In_any _ _ _ _).mono ?_; rintro e w' ⟨rfl, rfl⟩)
          go_ret
          exact ⟨ret_bool (by simp [traceV, ← HT.out, HS.out, HV.out, hv]), rfl⟩
        · go_wp2_with (go_at_call 35; refine (l1In_any _ _ _ _).mono ?_; rintro e w' ⟨rfl, rfl⟩)
          go_round
          case rel => exact ⟨k + 1, by omega, by go_num, Lib.hid (by rw [← HT.out, HS.out]; simp [HV.out, hv])⟩
          case measure => simp [intOf]; omega
      · have hp1 : ((k : Int) % 2 == 0) = false := by simp; omega
        have hp2 : ((k : Int) % 2 == 1) = true := by simp; omega
        have HV := Lib.hid (tvSpec' xs k hlt hp)
        clear hp
        cases hv : inB xs[k] 16 18
        · go_wp2_with (go_at_call 35; refine (l1In_any _ _ _ _).mono ?_; rintro e w' ⟨rfl, rfl⟩)
          go_ret
          exact ⟨ret_bool (by simp [traceV, ← HT.out, HS.out, HV.out, hv]), rfl⟩
        · go_wp2_with (go_at_call 35; refine (l1In_any _ _ _ _).mono ?_; rintro e w' ⟨rfl, rfl⟩)
          go_round
          case rel => exact ⟨k + 1, by omega, by go_num, Lib.hid (by rw [← HT.out, HS.out]; simp [HV.out, hv])⟩
          case measure => simp [intOf]; omega
    · have HE := Lib.hid (tvAll_end xs k (by omega))
      by_cases h1 : xs.length % 2 = 1
      · have h1' : ((xs.length : Int) % 2 == 1) = true := by simp; omega
        have H1 := Lib.hid h1
        clear h1
        by_cases h2 : xs.length ≤ 41
        all_goals
          go_wp2
          go_ret
          exact ⟨ret_bool (by simp [traceV, ← HT.out, HE.out, H1.out]; omega), rfl⟩
      · have h1' : ((xs.length : Int) % 2 == 1) = false := by simp; omega
        go_wp2
        go_ret
        exact ⟨ret_bool (by simp [traceV]; omega), rfl⟩
end Go.Proofs.Ytnpnpafdklcjmaa
