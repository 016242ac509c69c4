/-
  Texts of walks and plain lemmas for this seat; no condition.
-/
import Derived.Test.YtjpndimhegfbnaaGreatDoorL1In
import Derived.Test.YtjpndimhegfbnaaGreatDoorBits
namespace Go.Proofs.YtjpndimhegfbnaaGreatDoor
open Go.RowKit

/-- The atoms below k in which a test holds, as digits. -/
def atomsT (t : Nat) : Nat → List UInt8
  | 0 => []
  | k + 1 => atomsT t k ++ (if (t >>> k) % 2 = 1 then [UInt8.ofNat (48 + k)] else [])
def namedT : Nat → Option (List UInt8)
  | 0 => some [48]
  | 15 => some [49]
  | 10 => some [112]
  | 12 => some [113]
  | 5 => some [33, 112]
  | 3 => some [33, 113]
  | _ => none
/-- The text of a test in 0..15. -/
def testT (t : Nat) : List UInt8 := match namedT t with | some s => s | none => 91 :: atomsT t 4 ++ [93]
def hb (t k : Nat) : Bool := (t >>> k) % 2 == 1

theorem testValid_any (t : Int) (w : World) : Calls Tryz.prog 104 #[.int .i64 t] w fun e w' => e = .returned (.bool (inB t 0 15)) ∧ w = w' := by
  go_enter Tryz.func104, Tryz.ntmps104
  by_cases h1 : 0 ≤ t
  · by_cases h2 : t ≤ 15
    · go_wp2
      go_ret
      exact ⟨ret_bool (by simp [inB, h1, h2]), rfl⟩
    · go_wp2
      go_ret
      exact ⟨ret_bool (by simp [inB]; omega), rfl⟩
  · go_wp2
    go_ret
    exact ⟨ret_bool (by simp [inB]; omega), rfl⟩

set_option maxHeartbeats 1600000 in
theorem holds_any (t k : Nat) (ht : t < 16) (hk : k < 4) (w : World) : Calls Tryz.prog 184 #[.int .i64 t, .int .i64 k] w fun e w' => e = .returned (.bool (hb t k)) ∧ w = w' := by
  have h1 : t = 0 ∨ t = 1 ∨ t = 2 ∨ t = 3 ∨ t = 4 ∨ t = 5 ∨ t = 6 ∨ t = 7 ∨ t = 8 ∨ t = 9 ∨ t = 10 ∨ t = 11 ∨ t = 12 ∨ t = 13 ∨ t = 14 ∨ t = 15 := by omega
  have h2 : k = 0 ∨ k = 1 ∨ k = 2 ∨ k = 3 := by omega
  clear ht hk
  rcases h2 with rfl | rfl | rfl | rfl
  all_goals rcases h1 with rfl | rfl | rfl | rfl | rfl | rfl | rfl | rfl | rfl | rfl | rfl | rfl | rfl | rfl | rfl | rfl
  all_goals (go_enter Tryz.func184, Tryz.ntmps184; go_wp2; go_ret; exact ⟨rfl, rfl⟩)

set_option maxHeartbeats 1600000 in
theorem l1Bit_any (t k : Nat) (ht : t < 16) (hk : k < 4) (w : World) : Calls Tryz.prog 155 #[.int .i64 t, .int .i64 k] w fun e w' => e = .returned (.int .i64 (if hb t k then 1 else 0)) ∧ w = w' := by
  have h1 : t = 0 ∨ t = 1 ∨ t = 2 ∨ t = 3 ∨ t = 4 ∨ t = 5 ∨ t = 6 ∨ t = 7 ∨ t = 8 ∨ t = 9 ∨ t = 10 ∨ t = 11 ∨ t = 12 ∨ t = 13 ∨ t = 14 ∨ t = 15 := by omega
  have h2 : k = 0 ∨ k = 1 ∨ k = 2 ∨ k = 3 := by omega
  clear ht hk
  rcases h2 with rfl | rfl | rfl | rfl
  all_goals rcases h1 with rfl | rfl | rfl | rfl | rfl | rfl | rfl | rfl | rfl | rfl | rfl | rfl | rfl | rfl | rfl | rfl
  all_goals (go_enter Tryz.func155, Tryz.ntmps155; go_wp2; go_ret; exact ⟨rfl, rfl⟩)
end Go.Proofs.YtjpndimhegfbnaaGreatDoor
