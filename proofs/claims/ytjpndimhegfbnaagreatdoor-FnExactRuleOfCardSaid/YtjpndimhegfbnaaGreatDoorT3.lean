/-
  Texts of walks and plain lemmas for this seat; no condition.
-/
import Derived.Test.YtjpndimhegfbnaaGreatDoorT2
namespace Go.Proofs.YtjpndimhegfbnaaGreatDoor
open Go.RowKit

set_option maxHeartbeats 400000 in
theorem markIntS_any (lo hi : Nat) (v : Value) (xs : List Int) (k : Int) (w : World) (hx : OwnI lo hi 3 w v xs) (hm : xs.length ≤ 1048576) (hk0 : 0 ≤ k) (hk1 : k ≤ 1000000000000) :
    Calls Tryz.prog 34 #[v, .int .i64 k] w fun e w' =>
      e = .returned (.int .i64 (k + xs.length)) ∧ Outside lo hi w w' ∧ OwnI lo hi 3 w' v (seqI k xs.length) := by
  have hx' := hx
  obtain ⟨a, cap, rfl, hcap, hcm, hlen, hopen⟩ := Own.open hx
  have hlt' := hx'.2
  have hown0 := hx'.1
  have HLT := Lib.hid hlt'
  clear hx hx' hlen hlt'
  go_enter Tryz.func34, Tryz.ntmps34
  go_wp2
  go_loopw [1, 5] (fun c i wr => ∃ j : Nat, j ≤ xs.length ∧ i = .int .i64 j ∧ c = .int .i64 (k + j) ∧ wr.ownsRow lo 3 1 (.slice a xs.length cap) xs.length (over (ints (seqI k xs.length)) (ints xs) j) ∧ Outside lo hi w wr) (fun _ i _ => xs.length - (intOf i).toNat)
  case atStart => exact ⟨0, by omega, rfl, by simp, by rw [over_zero]; exact hown0, Outside.refl _ _ _⟩
  case round =>
    obtain ⟨j, hj, rfl, rfl, hown, hout⟩ := hrel
    clear hown0
    by_cases hlt : j < xs.length
    · obtain ⟨g, rfl, hg1, hg2⟩ := hopen (by omega)
      have hw1 := hown.cellAt j (by omega)
      have hw2 := hown.frozenAt j
      have HS := Lib.hid (hown.stored j (.int .i64 (k + j))).1
      have HO := Lib.hid (hout.setCell (p := ⟨g, j, none⟩) hg1 hg2 (.int .i64 (k + j)))
      rw [over_get _ _ _ (by simp [ints, seqI]) (by simp [ints]; omega), ints_get _ _ hlt] at hw1
      clear hopen hown hout
      go_wp2
      go_roundw
      case rel =>
        exact ⟨j + 1, by omega, by go_num, by go_num, by rw [← over_set _ _ j (by simp [ints, seqI]) (by simp [ints]; omega) _ (seqI_get k _ j hlt)]; exact HS.out, HO.out⟩
      case measure => simp [intOf]; omega
    · obtain rfl : j = xs.length := by omega
      go_wp2
      go_ret
      rw [over_all _ _ _ (by simp [ints]) (by simp [ints, seqI])] at hown
      exact ⟨rfl, hout, by rw [seqI_length]; exact hown, HLT.out⟩

set_option maxHeartbeats 400000 in
theorem heldIntS_any (lo hi : Nat) (v : Value) (n : Nat) (k : Int) (w : World) (hx : SlI lo hi w v (seqI k n)) (hm : n ≤ 1048576) (hk0 : 0 ≤ k) (hk1 : k ≤ 1000000000000) :
    Calls Tryz.prog 35 #[v, .int .i64 k] w fun e w' =>
      e = .returned (.int .i64 (k + n)) ∧ w' = w := by
  obtain ⟨a, cap, rfl, hcap, hcm, hc⟩ := hx.open
  rw [seqI_length] at *
  clear hx
  go_enter Tryz.func35, Tryz.ntmps35
  go_wp2
  go_loop [1, 5] (fun c i => ∃ j : Nat, j ≤ n ∧ i = .int .i64 j ∧ c = .int .i64 (k + j)) (fun _ i => n - (intOf i).toNat)
  case atStart => exact ⟨0, by omega, rfl, by simp⟩
  case round =>
    obtain ⟨j, hj, rfl, rfl⟩ := hrel
    by_cases hlt : j < n
    · obtain ⟨b, off, rfl, _, _, _, hcell⟩ := hc j (by rw [seqI_length]; exact hlt)
      have he : (seqI k n)[j]'(by rw [seqI_length]; exact hlt) = k + j := by simp [seqI]
      rw [he] at hcell
      clear hc he
      have ht : ((k + j : Int) != k + j) = false := by simp
      go_wp2
      go_round
      case rel => exact ⟨j + 1, by omega, by go_num, by go_num⟩
      case measure => simp [intOf]; omega
    · obtain rfl : j = n := by omega
      go_wp2
      go_ret
      exact ⟨rfl, rfl⟩
end Go.Proofs.YtjpndimhegfbnaaGreatDoor
