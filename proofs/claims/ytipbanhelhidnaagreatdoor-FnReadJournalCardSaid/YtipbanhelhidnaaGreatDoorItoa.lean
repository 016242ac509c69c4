/-
  Texts of walks and plain lemmas for this seat; no condition.
-/
import Derived.Test.YtipbanhelhidnaaGreatDoorGA
import Derived.Test.YtipbanhelhidnaaGreatDoorRows
namespace Go.Proofs.YtipbanhelhidnaaGreatDoor
open Go.RowKit

def smallsA : ByteArray := ⟨#[48, 49, 50, 51, 52, 53, 54, 55, 56, 57, 97, 98, 99, 100, 101, 102, 103, 104, 105, 106, 107, 108, 109, 110, 111, 112, 113, 114, 115, 116, 117, 118, 119, 120, 121, 122]⟩
def smallsB : ByteArray := ⟨#[48, 48, 48, 49, 48, 50, 48, 51, 48, 52, 48, 53, 48, 54, 48, 55, 48, 56, 48, 57, 49, 48, 49, 49, 49, 50, 49, 51, 49, 52, 49, 53, 49, 54, 49, 55, 49, 56, 49, 57, 50, 48, 50, 49, 50, 50, 50, 51, 50, 52, 50, 53, 50, 54, 50, 55, 50, 56, 50, 57, 51, 48, 51, 49, 51, 50, 51, 51, 51, 52, 51, 53, 51, 54, 51, 55, 51, 56, 51, 57, 52, 48, 52, 49, 52, 50, 52, 51, 52, 52, 52, 53, 52, 54, 52, 55, 52, 56, 52, 57, 53, 48, 53, 49, 53, 50, 53, 51, 53, 52, 53, 53, 53, 54, 53, 55, 53, 56, 53, 57, 54, 48, 54, 49, 54, 50, 54, 51, 54, 52, 54, 53, 54, 54, 54, 55, 54, 56, 54, 57, 55, 48, 55, 49, 55, 50, 55, 51, 55, 52, 55, 53, 55, 54, 55, 55, 55, 56, 55, 57, 56, 48, 56, 49, 56, 50, 56, 51, 56, 52, 56, 53, 56, 54, 56, 55, 56, 56, 56, 57, 57, 48, 57, 49, 57, 50, 57, 51, 57, 52, 57, 53, 57, 54, 57, 55, 57, 56, 57, 57]⟩
theorem smallsA_at : ∀ n, n < 10 → smallsA.extract n (n + 1) = ⟨(dig2 n).toArray⟩ := by decide +kernel
theorem smallsB_at : ∀ n, n < 100 → 10 ≤ n → smallsB.extract (n * 2) (n * 2 + 2) = ⟨(dig2 n).toArray⟩ := by decide +kernel

set_option maxRecDepth 100000 in
set_option maxHeartbeats 800000 in
theorem small_any (n : Nat) (w : World) (h : n < 100) :
    Calls Tryz.prog 141 #[.int .i64 n] w fun e w' => e = .returned (.string ⟨(dig2 n).toArray⟩) ∧ w = w' := by
  by_cases h1 : n < 10
  · have hk := Lib.hid (smallsA_at n h1)
    go_enter Tryz.func141, Tryz.ntmps141
    go_wp2
    go_ret
    refine ⟨?_, rfl⟩
    rw [← hk.out]
    rfl
  · have hk := Lib.hid (smallsB_at n h (by omega))
    go_enter Tryz.func141, Tryz.ntmps141
    go_wp2
    go_ret
    refine ⟨?_, rfl⟩
    rw [← hk.out]
    rfl

set_option maxHeartbeats 800000 in
theorem Itoa_any (n : Nat) (w : World) (h : n < 100) :
    Calls Tryz.prog 36 #[.int .i64 n] w fun e w' => e = .returned (.string ⟨(dig2 n).toArray⟩) ∧ w = w' := by
  go_enter Tryz.func36, Tryz.ntmps36
  go_wp2_with (first | (go_at_call 141; refine (small_any n _ h).mono ?_; rintro e w' ⟨rfl, rfl⟩) | go_in)
  go_ret
  exact ⟨rfl, rfl⟩
theorem Itoa_q (n : Nat) (w : World) (h : n < 100) :
    Calls Tryz.prog 36 #[.int .i64 n] w fun e w' => e = .returned (.string ⟨(dig2 n).toArray⟩) ∧ w' = w :=
  (Itoa_any n w h).mono fun _ _ h => ⟨h.1, h.2.symm⟩
end Go.Proofs.YtipbanhelhidnaaGreatDoor
