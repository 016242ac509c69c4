/-
  Texts of walks and plain lemmas for this seat; no condition.
-/
import Derived.Test.YtjpndimhegfbnaaGreatDoorBase
import Derived.Test.YtjpndimhegfbnaaGreatDoorRows
import Derived.Deep.QuietTactic
import Derived.BigQuiet
namespace Go.Proofs.YtjpndimhegfbnaaGreatDoor
open Go.RowKit

theorem info_int : (Tryz.prog.info? 3).map (fun i => (i.zero, i.size, i.bytes)) = some (some (.int .i64 0), 1, 8) := by kernel_rfl

set_option maxHeartbeats 400000 in
theorem toIntS_any (lo hi : Nat) (v : Value) (xs : List Int) (w : World) (hx : SlI lo hi w v xs) (hm : xs.length ≤ 1048576) :
    Calls Tryz.prog 31 #[v] w fun e w' =>
      ∃ v', e = .returned v' ∧ Below w.heap.size w w' ∧ OwnI w.heap.size w'.heap.size 3 w' v' xs := by
  obtain ⟨i0, hi, hz0, hz1, hz2⟩ := info_parts info_int
  obtain ⟨a, cap, rfl, hcap, hcm, hc⟩ := hx.open
  clear hx hcm
  go_enter Tryz.func31, Tryz.ntmps31
  go_wp2_with ((at_make; refine wpList_make_full _ rfl _ _ 22 rfl w.heap.size 3 i0 (.int .i64 0) 1 Tryz.underlying22 hi hz0 hz1 .i64 .i64 xs.length xs.length xs.length rfl rfl rfl rfl ?c1 ?c2 ?c3 ?c4))
  case c1 => rw [hz2]; omega
  case c2 => simp [maxLen]; omega
  case c3 => exact Nat.le_refl _
  case c4 =>
    intro w1 hown hg
    have hb1 : Below w.heap.size w w1 := (Below.refl _ _).grown hg (Nat.le_refl _) (by simp)
    rw [toList_madeCells_one] at hown
    clear hg hi hz0 hz1 hz2
    go_wp2
    go_loopw [4] (fun i wr => ∃ k, k ≤ xs.length ∧ i = .int .i64 k ∧ wr.ownsRow w.heap.size 3 1 (.slice (some ⟨w.heap.size, 0, none⟩) xs.length xs.length) xs.length (fill (ints xs) (.int .i64 0) k) ∧ Below w.heap.size w wr) (fun i _ => xs.length - (intOf i).toNat)
    case atStart => exact ⟨0, by omega, rfl, by rw [fill_zero, ints_length]; exact hown, hb1⟩
    case round =>
      obtain ⟨k, hk, rfl, hown, hbk⟩ := hrel
      clear hb1
      by_cases hlt : k < xs.length
      · obtain ⟨b, off, rfl, _, _, hbs, hck⟩ := hc k hlt
        have hck' : wr.cell? ⟨b, off + k, none⟩ = some (.int .i64 xs[k]) := by
          rw [hbk.cell (p := ⟨b, off + k, none⟩) hbs]; exact hck
        have hne : b ≠ w.heap.size := by omega
        have hw1 := hown.cellAt k (by omega)
        have hw2 := hown.frozenAt k
        have HS := Lib.hid (hown.stored k (.int .i64 xs[k]))
        have HBS := Lib.hid (hbk.setCell (p := ⟨w.heap.size, k, none⟩) (Nat.le_refl _) (.int .i64 xs[k]))
        have hw3 : ∃ x, wr.cell? ⟨w.heap.size, k, none⟩ = some x := by
          refine ⟨.int .i64 0, ?_⟩
          rw [hw1]; exact fill_get _ _ _ (by rw [ints_length]; exact hlt)
        obtain ⟨x, hw3⟩ := hw3
        clear hc hck hw1 hown hbk
        go_wp2
        go_roundw
        case rel =>
          exact ⟨k + 1, by omega, by go_num, by rw [← fill_set _ _ k (by rw [ints_length]; exact hlt) _ (ints_get xs k hlt)]; exact HS.out.1, HBS.out⟩
        case measure => simp [intOf]; omega
      · obtain rfl : k = xs.length := by omega
        go_wp2
        go_ret
        rw [fill_all _ _ _ (by rw [ints_length]; exact Nat.le_refl _)] at hown
        exact ⟨_, rfl, hbk, hown, fun g hg => (hown.lt g hg).2⟩
end Go.Proofs.YtjpndimhegfbnaaGreatDoor
