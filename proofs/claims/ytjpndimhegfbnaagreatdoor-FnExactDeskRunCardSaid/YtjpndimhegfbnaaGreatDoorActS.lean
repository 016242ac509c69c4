/-
  Texts of walks and plain lemmas for this seat; no condition.
-/
import Derived.Test.YtjpndimhegfbnaaGreatDoorAcs
import Derived.Test.YtjpndimhegfbnaaGreatDoorAct2
import Derived.Test.YtjpndimhegfbnaaGreatDoorActInfo
import Derived.Deep.RegionWith
import Derived.Deep.QuietTactic
import Derived.BigQuiet
namespace Go.Proofs.YtjpndimhegfbnaaGreatDoor
open Go.RowKit

set_option maxRecDepth 100000 in
set_option maxHeartbeats 1600000 in
theorem toActS_any (lo hi : Nat) (v : Value) (xs : List Ac) (w : World) (hx : SlA lo hi w v xs) (hh : hi ≤ w.heap.size) (hm : xs.length ≤ 1048576) :
    Calls Tryz.prog 64 #[v] w (RetV fun v' w' => Below w.heap.size w w' ∧ OwnA w.heap.size w'.heap.size 74 w' v' xs) := by
  obtain ⟨i0, hi', hz0, hz1, hz2⟩ := info_parts info_act
  obtain ⟨a, cap, rfl, hcap, hcm⟩ := hx.shape
  have HX := Lib.hid hx
  clear hx hcm
  go_enter Tryz.func64, Tryz.ntmps64
  go_wp2_with ((at_make; refine wpList_make_full _ rfl _ _ 82 rfl w.heap.size 74 i0 (.agg #[.int .i64 0, .int .i64 0, .bool false, .int .i64 0, .int .i64 0]) 5 Tryz.underlying82 hi' hz0 hz1 .i64 .i64 xs.length xs.length xs.length rfl rfl rfl rfl ?c1 ?c2 ?c3 ?c4))
  case c1 => rw [hz2]; omega
  case c2 => simp [maxLen]; omega
  case c3 => exact Nat.le_refl _
  case c4 =>
    intro w1 hown hg
    have hb1 : Below w.heap.size w w1 := (Below.refl _ _).grown hg (Nat.le_refl _) (by simp)
    rw [made_acs] at hown
    clear hg hi' hz0 hz1 hz2
    go_wp2
    go_loopw [4] (fun i wr => ∃ k, k ≤ xs.length ∧ i = .int .i64 k ∧ wr.ownsRow w.heap.size 74 5 (.slice (some ⟨w.heap.size, 0, none⟩) xs.length xs.length) xs.length (over (acs xs) (acs (List.replicate xs.length zAc)) (k * 5)) ∧ Below w.heap.size w wr) (fun i _ => xs.length - (intOf i).toNat)
    case atStart => exact ⟨0, by omega, rfl, by rw [Nat.zero_mul, over_zero]; exact hown, hb1⟩
    case round =>
      obtain ⟨k, hk, rfl, hown, hbk⟩ := hrel
      clear hb1
      by_cases hlt : k < xs.length
      · obtain ⟨b, off, rfl, _, hbh, hbs, q0, q1, q2, q3, q4⟩ := (HX.out.below hbk hh).get k hlt
        have HO := Lib.hid hown
        have HB := Lib.hid hbk
        have hsz := hbk.size
        clear hown hbk
        go_wp2_with fail
        refine (toAct_any xs[k] _).mono ?_
        rintro e w2 ⟨rfl, hb2⟩
        have HB2 := Lib.hid (HB.out.trans (hb2.mono hsz))
        have hown := ownsRow_below HO.out hb2
        clear hb2 q0 q1 q2 q3 q4
        have hl1 : (acs xs).length = (acs (List.replicate xs.length zAc)).length := by rw [acs_length, acs_length, List.length_replicate]
        have hl2 := acs_length xs
        have hol := over_length (acs xs) (acs (List.replicate xs.length zAc)) (k * 5) hl1
        obtain ⟨y0, hw0⟩ : ∃ y, w2.cell? ⟨w.heap.size, k * 5, none⟩ = some y := ⟨_, by rw [hown.cellAt _ (by omega)]; exact List.getElem?_eq_getElem (by omega)⟩
        obtain ⟨y1, hw1⟩ : ∃ y, w2.cell? ⟨w.heap.size, k * 5 + 1, none⟩ = some y := ⟨_, by rw [hown.cellAt _ (by omega)]; exact List.getElem?_eq_getElem (by omega)⟩
        obtain ⟨y2, hw2⟩ : ∃ y, w2.cell? ⟨w.heap.size, k * 5 + 2, none⟩ = some y := ⟨_, by rw [hown.cellAt _ (by omega)]; exact List.getElem?_eq_getElem (by omega)⟩
        obtain ⟨y3, hw3⟩ : ∃ y, w2.cell? ⟨w.heap.size, k * 5 + 3, none⟩ = some y := ⟨_, by rw [hown.cellAt _ (by omega)]; exact List.getElem?_eq_getElem (by omega)⟩
        obtain ⟨y4, hw4⟩ : ∃ y, w2.cell? ⟨w.heap.size, k * 5 + 4, none⟩ = some y := ⟨_, by rw [hown.cellAt _ (by omega)]; exact List.getElem?_eq_getElem (by omega)⟩
        have hf0 := hown.frozenAt (k * 5)
        have hf1 := hown.frozenAt (k * 5 + 1)
        have hf2 := hown.frozenAt (k * 5 + 2)
        have hf3 := hown.frozenAt (k * 5 + 3)
        have hf4 := hown.frozenAt (k * 5 + 4)
        have HS : Hid ((((((w2.setCell ⟨w.heap.size, k * 5, none⟩ (.int .i64 xs[k].kind)).setCell ⟨w.heap.size, k * 5 + 1, none⟩ (.int .i64 xs[k].step.which)).setCell ⟨w.heap.size, k * 5 + 2, none⟩ (.bool xs[k].step.back)).setCell ⟨w.heap.size, k * 5 + 3, none⟩ (.int .i64 xs[k].step.at_)).setCell ⟨w.heap.size, k * 5 + 4, none⟩ (.int .i64 xs[k].count)).ownsRow w.heap.size 74 5 (.slice (some ⟨w.heap.size, 0, none⟩) xs.length xs.length) xs.length (over (acs xs) (acs (List.replicate xs.length zAc)) ((k + 1) * 5))) := by
          have h1 := (hown.stored (k * 5) (.int .i64 xs[k].kind)).1
          have h2 := (h1.stored (k * 5 + 1) (.int .i64 xs[k].step.which)).1
          have h3 := (h2.stored (k * 5 + 2) (.bool xs[k].step.back)).1
          have h4 := (h3.stored (k * 5 + 3) (.int .i64 xs[k].step.at_)).1
          have h5 := (h4.stored (k * 5 + 4) (.int .i64 xs[k].count)).1
          rw [acs_over5 xs (List.replicate xs.length zAc) (by rw [List.length_replicate]) k (by rw [List.length_replicate]; exact hlt)] at h5
          exact Lib.hid h5
        have HBS := Lib.hid (((((HB2.out.setCell (p := ⟨w.heap.size, k * 5, none⟩) (Nat.le_refl _) (.int .i64 xs[k].kind)).setCell (p := ⟨w.heap.size, k * 5 + 1, none⟩) (Nat.le_refl _) (.int .i64 xs[k].step.which)).setCell (p := ⟨w.heap.size, k * 5 + 2, none⟩) (Nat.le_refl _) (.bool xs[k].step.back)).setCell (p := ⟨w.heap.size, k * 5 + 3, none⟩) (Nat.le_refl _) (.int .i64 xs[k].step.at_)).setCell (p := ⟨w.heap.size, k * 5 + 4, none⟩) (Nat.le_refl _) (.int .i64 xs[k].count))
        clear hown hl1 hl2 hol
        go_wp2
        go_roundw
        case rel => exact ⟨k + 1, by omega, by go_num, HS.out, HBS.out⟩
        case measure => simp [intOf]; omega
      · obtain rfl : k = xs.length := by omega
        go_wp2
        go_ret
        rw [over_all _ _ _ (by rw [acs_length, List.length_replicate]; exact Nat.le_refl _) (by rw [acs_length]; exact Nat.le_refl _)] at hown
        exact .mk _ rfl ⟨hbk, hown, fun g hg => (hown.lt g hg).2⟩
end Go.Proofs.YtjpndimhegfbnaaGreatDoor
