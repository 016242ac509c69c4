/-
  Texts of walks and plain lemmas for this seat; no condition.
-/
import Derived.Test.YtjpndimhegfbnaaGreatDoorMv
import Derived.Test.YtjpndimhegfbnaaGreatDoorMvEq
namespace Go.Proofs.YtjpndimhegfbnaaGreatDoor
open Go.RowKit

/-- What markMoveS writes from k on. -/
def mvK (k : Int) : Mv := ⟨k, (k + 1) % 3 == 0, k + 2⟩
def seqM (k : Int) (n : Nat) : List Mv := (List.range n).map (fun i => mvK (k + 3 * (i : Nat)))
theorem seqM_length (k : Int) (n : Nat) : (seqM k n).length = n := by simp [seqM]
theorem seqM_get (k : Int) (n i : Nat) (h : i < n) : (seqM k n)[i]'(by rw [seqM_length]; exact h) = mvK (k + 3 * (i : Nat)) := by simp [seqM]
theorem mvs_over (ys xs : List Mv) (hl : ys.length = xs.length) (k : Nat) (h : k < xs.length) :
    (((over (mvs ys) (mvs xs) (k * 3)).set (k * 3) (.int .i64 (ys[k]'(by omega)).which)).set (k * 3 + 1) (.bool (ys[k]'(by omega)).back)).set (k * 3 + 2) (.int .i64 (ys[k]'(by omega)).at_) = over (mvs ys) (mvs xs) ((k + 1) * 3) := by
  have h1 := mvs_length ys
  have h2 := mvs_length xs
  obtain ⟨g1, g2, g3⟩ := mvs_get ys k (by omega)
  rw [over_set _ _ _ (by omega) (by omega) _ g1, over_set _ _ _ (by omega) (by omega) _ g2, over_set _ _ _ (by omega) (by omega) _ g3]
  congr 1
  omega

set_option maxHeartbeats 1600000 in
theorem markMoveS_any (lo hi : Nat) (v : Value) (xs : List Mv) (k : Int) (w : World) (hx : OwnM lo hi 66 w v xs) (hm : xs.length ≤ 1048576) (hk0 : 0 ≤ k) (hk1 : k ≤ 1000000000000) :
    Calls Tryz.prog 45 #[v, .int .i64 k] w fun e w' =>
      e = .returned (.int .i64 (k + 3 * xs.length)) ∧ Outside lo hi w w' ∧ OwnM lo hi 66 w' v (seqM k xs.length) := by
  have hx' := hx
  obtain ⟨a, cap, rfl, hcap, hcm, hlen, hopen⟩ := Own.open hx
  have hown0 := hx'.1
  have HLT := Lib.hid hx'.2
  clear hx hx' hlen
  go_enter Tryz.func45, Tryz.ntmps45
  go_wp2
  go_loopw [1, 5] (fun c i wr => ∃ j : Nat, j ≤ xs.length ∧ i = .int .i64 j ∧ c = .int .i64 (k + 3 * j) ∧ wr.ownsRow lo 66 3 (.slice a xs.length cap) xs.length (over (mvs (seqM k xs.length)) (mvs xs) (j * 3)) ∧ Outside lo hi w wr) (fun _ i _ => xs.length - (intOf i).toNat)
  case atStart => exact ⟨0, by omega, rfl, by simp, by rw [Nat.zero_mul, over_zero]; exact hown0, Outside.refl _ _ _⟩
  case round =>
    obtain ⟨j, hj, rfl, rfl, hown, hout⟩ := hrel
    clear hown0
    by_cases hlt : j < xs.length
    · obtain ⟨g, rfl, hg1, hg2⟩ := hopen (by omega)
      have hl1 : (mvs (seqM k xs.length)).length = (mvs xs).length := by rw [mvs_length, mvs_length, seqM_length]
      have hl2 := mvs_length xs
      have hw0 : wr.cell? ⟨g, j * 3, none⟩ = (mvs xs)[j * 3]? := by rw [hown.cellAt _ (by omega), over_get _ _ _ hl1 (by omega)]
      have hol := over_length (mvs (seqM k xs.length)) (mvs xs) (j * 3) hl1
      obtain ⟨y1, hw1⟩ : ∃ y, wr.cell? ⟨g, j * 3, none⟩ = some y := ⟨_, by rw [hown.cellAt _ (by omega)]; exact List.getElem?_eq_getElem (by omega)⟩
      obtain ⟨y2, hw2⟩ : ∃ y, wr.cell? ⟨g, j * 3 + 1, none⟩ = some y := ⟨_, by rw [hown.cellAt _ (by omega)]; exact List.getElem?_eq_getElem (by omega)⟩
      obtain ⟨y3, hw3⟩ : ∃ y, wr.cell? ⟨g, j * 3 + 2, none⟩ = some y := ⟨_, by rw [hown.cellAt _ (by omega)]; exact List.getElem?_eq_getElem (by omega)⟩
      have hf1 := hown.frozenAt (j * 3)
      have hf2 := hown.frozenAt (j * 3 + 1)
      have hf3 := hown.frozenAt (j * 3 + 2)
      have hg := seqM_get k xs.length j hlt
      have HS : Hid ((((wr.setCell ⟨g, j * 3, none⟩ (.int .i64 (k + 3 * j))).setCell ⟨g, j * 3 + 1, none⟩ (.bool ((k + 3 * j + 1) % 3 == 0))).setCell ⟨g, j * 3 + 2, none⟩ (.int .i64 (k + 3 * j + 1 + 1))).ownsRow lo 66 3 (.slice (some ⟨g, 0, none⟩) xs.length cap) xs.length (over (mvs (seqM k xs.length)) (mvs xs) ((j + 1) * 3))) := by
        have h1 := (hown.stored (j * 3) (.int .i64 (k + 3 * j))).1
        have h2 := (h1.stored (j * 3 + 1) (.bool ((k + 3 * j + 1) % 3 == 0))).1
        have h3 := (h2.stored (j * 3 + 2) (.int .i64 (k + 3 * j + 1 + 1))).1
        have h4 := mvs_over (seqM k xs.length) xs (seqM_length _ _) j hlt
        rw [hg] at h4
        simp only [mvK] at h4
        rw [← h4]
        have e : k + 3 * (j : Int) + 2 = k + 3 * j + 1 + 1 := by omega
        rw [e]
        exact Lib.hid h3
      have HO := Lib.hid (((hout.setCell (p := ⟨g, j * 3, none⟩) hg1 hg2 (.int .i64 (k + 3 * j))).setCell (p := ⟨g, j * 3 + 1, none⟩) hg1 hg2 (.bool ((k + 3 * j + 1) % 3 == 0))).setCell (p := ⟨g, j * 3 + 2, none⟩) hg1 hg2 (.int .i64 (k + 3 * j + 1 + 1)))
      clear hopen hown hout hl1 hl2 hw0 hol hg
      go_wp2
      go_roundw
      case rel =>
        exact ⟨j + 1, by omega, by go_num, by congr 1; omega, HS.out, HO.out⟩
      case measure => simp [intOf]; omega
    · obtain rfl : j = xs.length := by omega
      go_wp2
      go_ret
      rw [over_all _ _ _ (by rw [mvs_length]; exact Nat.le_refl _) (by rw [mvs_length, seqM_length]; exact Nat.le_refl _)] at hown
      exact ⟨rfl, hout, by rw [seqM_length]; exact hown, HLT.out⟩

set_option maxHeartbeats 1600000 in
theorem heldMoveS_any (lo hi : Nat) (v : Value) (n : Nat) (k : Int) (w : World) (hx : SlM lo hi w v (seqM k n)) (hm : n ≤ 1048576) (hk0 : 0 ≤ k) (hk1 : k ≤ 1000000000000) :
    Calls Tryz.prog 48 #[v, .int .i64 k] w fun e w' =>
      e = .returned (.int .i64 (k + 3 * n)) ∧ w' = w := by
  obtain ⟨a, cap, rfl, hcap, hcm⟩ := hx.shape
  have HX := Lib.hid hx
  rw [seqM_length] at *
  clear hx
  go_enter Tryz.func48, Tryz.ntmps48
  go_wp2
  go_loop [1, 5] (fun c i => ∃ j : Nat, j ≤ n ∧ i = .int .i64 j ∧ c = .int .i64 (k + 3 * j)) (fun _ i => n - (intOf i).toNat)
  case atStart => exact ⟨0, by omega, rfl, by simp⟩
  case round =>
    obtain ⟨j, hj, rfl, rfl⟩ := hrel
    by_cases hlt : j < n
    · obtain ⟨b, off, rfl, _, _, _, c1, c2, c3⟩ := HX.out.get j (by rw [seqM_length]; exact hlt)
      rw [seqM_get k n j hlt] at c1 c2 c3
      simp only [mvK] at c1 c2 c3
      have ht : ((k + 3 * j : Int) != k + 3 * j) = false := by simp
      have ht2 : ((k + 3 * j + 2 : Int) != k + 3 * j + 1 + 1) = false := by simp; omega
      go_wp2
      go_round
      case rel => exact ⟨j + 1, by omega, by go_num, by congr 1; omega⟩
      case measure => simp [intOf]; omega
    · obtain rfl : j = n := by omega
      go_wp2
      go_ret
      exact ⟨rfl, rfl⟩
end Go.Proofs.YtjpndimhegfbnaaGreatDoor
