/-
  Texts of walks and plain lemmas for this seat; no condition.
-/
import Derived.Test.YtjpndimhegfbnaaGreatDoorTestText
namespace Go.Proofs.YtjpndimhegfbnaaGreatDoor
open Go.RowKit

/-- The test that a text is; by the order of the tests. -/
def readT (l : List UInt8) : Option Nat := (List.range 16).find? fun t => testT t == l
/-- No test below k has this text. -/
def NoT (l : List UInt8) (k : Nat) : Prop := ∀ j, j < k → testT j ≠ l
theorem readT_some {l : List UInt8} {k : Nat} (hk : k < 16) (hn : NoT l k) (h : testT k = l) : readT l = some k := by
  unfold readT
  rw [List.find?_range_eq_some]
  refine ⟨by simpa using h, by simpa using hk, fun j hj => by simpa using hn j hj⟩
theorem readT_none {l : List UInt8} (hn : NoT l 16) : readT l = none := by
  unfold readT
  rw [List.find?_eq_none]
  intro t ht
  simpa using hn t (by simpa using ht)
/-- What ReadTest hands back. -/
def rdT : Option Nat → Value
  | some t => .tuple #[.int .i64 t, .bool true]
  | none => .tuple #[.int .i64 (-1), .bool false]

set_option maxRecDepth 100000 in
set_option maxHeartbeats 1600000 in
theorem impl_ReadTest (l : List UInt8) (s : ByteArray) (hs : s = ⟨l.toArray⟩) (w : World) (hM : MapT w) :
    Calls Tryz.prog 165 #[.string s] w fun e w' => e = .returned (rdT (readT l)) ∧ w = w' := by
  subst hs
  have HM := Lib.hid hM
  clear hM
  go_enter Tryz.func165, Tryz.ntmps165
  go_wp2
  go_loop [5] (fun i => ∃ k : Nat, k ≤ 16 ∧ i = .int .i64 k ∧ Hid (NoT l k)) (fun i => 16 - (intOf i).toNat)
  case atStart => exact ⟨0, by omega, rfl, Lib.hid (by intro j hj; omega)⟩
  case round =>
    obtain ⟨k, hk, rfl, HN⟩ := hrel
    by_cases hlt : k < 16
    · cases hq : (testT k == l)
      · go_wp2_with (go_at_call 176; refine (impl_TestText k hlt _ HM.out).mono ?_; rintro e w' ⟨rfl, rfl⟩)
        go_round
        case rel =>
          refine ⟨k + 1, by omega, by go_num, Lib.hid ?_⟩
          intro j hj
          rcases Nat.lt_or_ge j k with h | h
          · exact HN.out j h
          · obtain rfl : j = k := by omega
            simpa using hq
        case measure => simp [intOf]; omega
      · have HR := Lib.hid (readT_some hlt HN.out (by simpa using hq))
        go_wp2_with (go_at_call 176; refine (impl_TestText k hlt _ HM.out).mono ?_; rintro e w' ⟨rfl, rfl⟩)
        go_ret2
        exact ⟨by rw [HR.out]; rfl, rfl⟩
    · obtain rfl : k = 16 := by omega
      have HR := Lib.hid (readT_none HN.out)
      go_wp2
      go_ret2
      exact ⟨by rw [HR.out]; rfl, rfl⟩
end Go.Proofs.YtjpndimhegfbnaaGreatDoor
