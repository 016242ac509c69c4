/-
  Texts of walks and plain lemmas for this seat; no condition.
-/
import Derived.Test.YtplofpdjhelabaaGreatDoorGA
namespace Go.Proofs.YtplofpdjhelabaaGreatDoor
open Go.RowKit

def isAtomB (n : Int) : Bool := decide (0 ≤ n) && decide (n ≤ 3)
def tvAt (i : Nat) (x : Int) : Bool := if i % 2 = 0 then isAtomB x else isActB x
def tvAll : Nat → List Int → Bool
  | _, [] => true
  | i, x :: r => tvAt i x && tvAll (i + 1) r
def traceV (xs : List Int) : Bool := decide (xs.length % 2 = 1) && decide (xs.length ≤ 41) && tvAll 0 xs

theorem tvAll_step (xs : List Int) (k : Nat) (h : k < xs.length) : tvAll k (xs.drop k) = (tvAt k xs[k] && tvAll (k + 1) (xs.drop (k + 1))) := by
  rw [List.drop_eq_getElem_cons h]; rfl
theorem tvAll_end (xs : List Int) (k : Nat) (h : xs.length ≤ k) : tvAll k (xs.drop k) = true := by
  rw [List.drop_of_length_le h]; rfl

theorem tvAll_at (xs : List Int) : ∀ (i k : Nat) (h : k < xs.length), tvAll i xs = true → tvAt (i + k) xs[k] = true := by
  induction xs with
  | nil => intro i k h; simp at h
  | cons x r ih =>
    intro i k h ht
    simp only [tvAll, Bool.and_eq_true] at ht
    cases k with
    | zero => exact ht.1
    | succ k =>
      have := ih (i + 1) k (by simpa using h) ht.2
      rw [show i + (k + 1) = i + 1 + k by omega]
      exact this
theorem traceV_even {xs : List Int} (h : traceV xs = true) (k : Nat) (hk : k < xs.length) (hp : k % 2 = 0) : 0 ≤ xs[k] ∧ xs[k] ≤ 3 := by
  simp only [traceV, Bool.and_eq_true] at h
  have := tvAll_at xs 0 k hk h.2
  simpa [tvAt, hp, isAtomB] using this
theorem traceV_odd {xs : List Int} (h : traceV xs = true) (k : Nat) (hk : k < xs.length) (hp : ¬ k % 2 = 0) : 16 ≤ xs[k] ∧ xs[k] ≤ 18 := by
  simp only [traceV, Bool.and_eq_true] at h
  have := tvAll_at xs 0 k hk h.2
  simpa [tvAt, hp, isActB] using this
theorem traceV_len {xs : List Int} (h : traceV xs = true) : xs.length % 2 = 1 ∧ xs.length ≤ 41 := by
  simp only [traceV, Bool.and_eq_true, decide_eq_true_eq] at h
  exact h.1

theorem isAtom_any (n : Int) (w : World) :
    Calls Tryz.prog 64 #[.int .i64 n] w fun e w' => e = .returned (.bool (isAtomB n)) ∧ w = w' := by
  go_enter Tryz.func64, Tryz.ntmps64
  by_cases h1 : 0 ≤ n
  · by_cases h2 : n ≤ 3
    · go_wp2
      go_ret
      exact ⟨ret_bool (by simp [isAtomB, h1, h2]), rfl⟩
    · go_wp2
      go_ret
      exact ⟨ret_bool (by simp [isAtomB]; omega), rfl⟩
  · go_wp2
    go_ret
    exact ⟨ret_bool (by simp [isAtomB]; omega), rfl⟩

set_option maxHeartbeats 400000 in
theorem impl_TraceValid (lo hi : Nat) (v : Value) (xs : List Int) (w : World) (hx : SlI lo hi w v xs) (hm : xs.length ≤ 1048576) :
    Calls Tryz.prog 31 #[v] w fun e w' => e = .returned (.bool (traceV xs)) ∧ w = w' := by
  obtain ⟨a, cap, rfl, hcap, hcm, hc⟩ := hx.open
  clear hx hcm hcap
  by_cases h1 : xs.length % 2 = 1
  · have h1' : ((xs.length : Int) % 2 != 1) = false := by simp; omega
    by_cases h2 : xs.length ≤ 41
    · have H1 := Lib.hid h1
      clear h1
      go_enter Tryz.func31, Tryz.ntmps31
      go_wp2
      go_loop [16] (fun i => ∃ k : Nat, k ≤ xs.length ∧ i = .int .i64 k ∧ Hid (tvAll k (xs.drop k) = tvAll 0 xs)) (fun i => xs.length - (intOf i).toNat)
      case atStart => exact ⟨0, by omega, rfl, Lib.hid rfl⟩
      case round =>
        obtain ⟨k, hk, rfl, HT⟩ := hrel
        by_cases hlt : k < xs.length
        · obtain ⟨b, off, rfl, _, _, _, hcell⟩ := hc k hlt
          have HS := Lib.hid (tvAll_step xs k hlt)
          clear hc
          by_cases hp : k % 2 = 0
          · have hp1 : ((k : Int) % 2 == 0) = true := by simp; omega
            have hp2 : ((k : Int) % 2 == 1) = false := by simp; omega
            have HP := Lib.hid hp
            clear hp
            cases hv : isAtomB xs[k]
            · go_wp2_with (go_at_call 64; refine (isAtom_any _ _).mono ?_; rintro e w' ⟨rfl, rfl⟩)
              go_ret
              exact ⟨ret_bool (by simp [traceV, ← HT.out, HS.out, tvAt, HP.out, hv]), rfl⟩
            · go_wp2_with (go_at_call 64; refine (isAtom_any _ _).mono ?_; rintro e w' ⟨rfl, rfl⟩)
              go_round
              case rel => exact ⟨k + 1, by omega, by go_num, Lib.hid (by rw [← HT.out, HS.out]; simp [tvAt, HP.out, hv])⟩
              case measure => simp [intOf]; omega
          · have hp1 : ((k : Int) % 2 == 0) = false := by simp; omega
            have hp2 : ((k : Int) % 2 == 1) = true := by simp; omega
            have HP := Lib.hid hp
            clear hp
            cases hv : isActB xs[k]
            · go_wp2_with (go_at_call 65; refine (isAct_any _ _).mono ?_; rintro e w' ⟨rfl, rfl⟩)
              go_ret
              exact ⟨ret_bool (by simp [traceV, ← HT.out, HS.out, tvAt, HP.out, hv]), rfl⟩
            · go_wp2_with (go_at_call 65; refine (isAct_any _ _).mono ?_; rintro e w' ⟨rfl, rfl⟩)
              go_round
              case rel => exact ⟨k + 1, by omega, by go_num, Lib.hid (by rw [← HT.out, HS.out]; simp [tvAt, HP.out, hv])⟩
              case measure => simp [intOf]; omega
        · go_wp2
          go_ret
          exact ⟨ret_bool (by simp [traceV, ← HT.out, tvAll_end xs k (by omega), H1.out, h2]), rfl⟩
    · go_enter Tryz.func31, Tryz.ntmps31
      go_wp2
      go_ret
      exact ⟨ret_bool (by simp [traceV]; omega), rfl⟩
  · have h1' : ((xs.length : Int) % 2 != 1) = true := by simp; omega
    go_enter Tryz.func31, Tryz.ntmps31
    go_wp2
    go_ret
    exact ⟨ret_bool (by simp [traceV]; omega), rfl⟩
end Go.Proofs.YtplofpdjhelabaaGreatDoor
