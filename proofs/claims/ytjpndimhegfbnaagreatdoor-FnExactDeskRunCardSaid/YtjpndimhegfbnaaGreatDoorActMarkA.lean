/-
  Texts of walks and plain lemmas for this seat; no condition.
-/
import Derived.Test.YtjpndimhegfbnaaGreatDoorAcs
import Derived.Test.YtjpndimhegfbnaaGreatDoorRows
import Derived.Deep.RegionWith
namespace Go.Proofs.YtjpndimhegfbnaaGreatDoor
open Go.RowKit

/-- What markActS writes from k on. -/
def acK (k : Int) : Ac := ⟨k, ⟨k + 1, (k + 2) % 3 == 0, k + 3⟩, k + 4⟩
def seqA (k : Int) (n : Nat) : List Ac := (List.range n).map (fun i => acK (k + 5 * (i : Nat)))
theorem seqA_length (k : Int) (n : Nat) : (seqA k n).length = n := by simp [seqA]
theorem seqA_get (k : Int) (n i : Nat) (h : i < n) : (seqA k n)[i]'(by rw [seqA_length]; exact h) = acK (k + 5 * (i : Nat)) := by simp [seqA]

set_option maxRecDepth 100000 in
set_option maxHeartbeats 3200000 in
theorem markActS_any (lo hi : Nat) (v : Value) (xs : List Ac) (k : Int) (w : World) (hx : OwnA lo hi 74 w v xs) (hm : xs.length ≤ 1048576) (hk0 : 0 ≤ k) (hk1 : k ≤ 1000000000000) :
    Calls Tryz.prog 67 #[v, .int .i64 k] w fun e w' =>
      e = .returned (.int .i64 (k + 5 * xs.length)) ∧ Outside lo hi w w' ∧ OwnA lo hi 74 w' v (seqA k xs.length) := by
  have hx' := hx
  obtain ⟨a, cap, rfl, hcap, hcm, hlen, hopen⟩ := Own.open hx
  have hown0 := hx'.1
  have HLT := Lib.hid hx'.2
  clear hx hx' hlen
  go_enter Tryz.func67, Tryz.ntmps67
  go_wp2
  go_loopw [1, 5] (fun c i wr => ∃ j : Nat, j ≤ xs.length ∧ i = .int .i64 j ∧ c = .int .i64 (k + 5 * j) ∧ wr.ownsRow lo 74 5 (.slice a xs.length cap) xs.length (over (acs (seqA k xs.length)) (acs xs) (j * 5)) ∧ Outside lo hi w wr) (fun _ i _ => xs.length - (intOf i).toNat)
  case atStart => exact ⟨0, by omega, rfl, by simp, by rw [Nat.zero_mul, over_zero]; exact hown0, Outside.refl _ _ _⟩
  case round =>
    obtain ⟨j, hj, rfl, rfl, hown, hout⟩ := hrel
    clear hown0
    by_cases hlt : j < xs.length
    · obtain ⟨g, rfl, hg1, hg2⟩ := hopen (by omega)
      have hl1 : (acs (seqA k xs.length)).length = (acs xs).length := by rw [acs_length, acs_length, seqA_length]
      have hl2 := acs_length xs
      have hol := over_length (acs (seqA k xs.length)) (acs xs) (j * 5) hl1
      obtain ⟨y0, hw0⟩ : ∃ y, wr.cell? ⟨g, j * 5, none⟩ = some y := ⟨_, by rw [hown.cellAt _ (by omega)]; exact List.getElem?_eq_getElem (by omega)⟩
      obtain ⟨y1, hw1⟩ : ∃ y, wr.cell? ⟨g, j * 5 + 1, none⟩ = some y := ⟨_, by rw [hown.cellAt _ (by omega)]; exact List.getElem?_eq_getElem (by omega)⟩
      obtain ⟨y2, hw2⟩ : ∃ y, wr.cell? ⟨g, j * 5 + 2, none⟩ = some y := ⟨_, by rw [hown.cellAt _ (by omega)]; exact List.getElem?_eq_getElem (by omega)⟩
      obtain ⟨y3, hw3⟩ : ∃ y, wr.cell? ⟨g, j * 5 + 3, none⟩ = some y := ⟨_, by rw [hown.cellAt _ (by omega)]; exact List.getElem?_eq_getElem (by omega)⟩
      obtain ⟨y4, hw4⟩ : ∃ y, wr.cell? ⟨g, j * 5 + 4, none⟩ = some y := ⟨_, by rw [hown.cellAt _ (by omega)]; exact List.getElem?_eq_getElem (by omega)⟩
      have hf0 := hown.frozenAt (j * 5)
      have hf1 := hown.frozenAt (j * 5 + 1)
      have hf2 := hown.frozenAt (j * 5 + 2)
      have hf3 := hown.frozenAt (j * 5 + 3)
      have hf4 := hown.frozenAt (j * 5 + 4)
      have hg := seqA_get k xs.length j hlt
      have HS : Hid ((((((wr.setCell ⟨g, j * 5, none⟩ (.int .i64 (k + 5 * j))).setCell ⟨g, j * 5 + 1, none⟩ (.int .i64 (k + 5 * j + 1))).setCell ⟨g, j * 5 + 2, none⟩ (.bool ((k + 5 * j + 1 + 1) % 3 == 0))).setCell ⟨g, j * 5 + 3, none⟩ (.int .i64 (k + 5 * j + 1 + 1 + 1))).setCell ⟨g, j * 5 + 4, none⟩ (.int .i64 (k + 5 * j + 1 + 1 + 1 + 1))).ownsRow lo 74 5 (.slice (some ⟨g, 0, none⟩) xs.length cap) xs.length (over (acs (seqA k xs.length)) (acs xs) ((j + 1) * 5))) := by
        have h1 := (hown.stored (j * 5) (.int .i64 (k + 5 * j))).1
        have h2 := (h1.stored (j * 5 + 1) (.int .i64 (k + 5 * j + 1))).1
        have h3 := (h2.stored (j * 5 + 2) (.bool ((k + 5 * j + 1 + 1) % 3 == 0))).1
        have h4 := (h3.stored (j * 5 + 3) (.int .i64 (k + 5 * j + 1 + 1 + 1))).1
        have h5 := (h4.stored (j * 5 + 4) (.int .i64 (k + 5 * j + 1 + 1 + 1 + 1))).1
        have h6 := acs_over5 (seqA k xs.length) xs (seqA_length _ _) j hlt
        rw [hg] at h6
        simp only [acK] at h6
        rw [← h6]
        rw [show k + 5 * (j : Int) + 2 = k + 5 * j + 1 + 1 by omega, show k + 5 * (j : Int) + 3 = k + 5 * j + 1 + 1 + 1 by omega, show k + 5 * (j : Int) + 4 = k + 5 * j + 1 + 1 + 1 + 1 by omega]
        exact Lib.hid h5
      have HO := Lib.hid (((((hout.setCell (p := ⟨g, j * 5, none⟩) hg1 hg2 (.int .i64 (k + 5 * j))).setCell (p := ⟨g, j * 5 + 1, none⟩) hg1 hg2 (.int .i64 (k + 5 * j + 1))).setCell (p := ⟨g, j * 5 + 2, none⟩) hg1 hg2 (.bool ((k + 5 * j + 1 + 1) % 3 == 0))).setCell (p := ⟨g, j * 5 + 3, none⟩) hg1 hg2 (.int .i64 (k + 5 * j + 1 + 1 + 1))).setCell (p := ⟨g, j * 5 + 4, none⟩) hg1 hg2 (.int .i64 (k + 5 * j + 1 + 1 + 1 + 1)))
      clear hopen hown hout hl1 hl2 hol hg
      go_wp2
      go_roundw
      case rel =>
        exact ⟨j + 1, by omega, by go_num, by congr 1; omega, HS.out, HO.out⟩
      case measure => simp [intOf]; omega
    · obtain rfl : j = xs.length := by omega
      go_wp2
      go_ret
      rw [over_all _ _ _ (by rw [acs_length]; exact Nat.le_refl _) (by rw [acs_length, seqA_length]; exact Nat.le_refl _)] at hown
      exact ⟨rfl, hout, by rw [seqA_length]; exact hown, HLT.out⟩
end Go.Proofs.YtjpndimhegfbnaaGreatDoor
