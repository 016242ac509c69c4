/-
  Texts of walks and plain lemmas for this seat; no condition.
-/
import Derived.Test.YtadihfjmgckdaaaGreatDoorGrid
import Derived.Test.YtadihfjmgckdaaaGreatDoorGB
import Derived.Test.YtadihfjmgckdaaaGreatDoorGA
import Derived.Test.YtadihfjmgckdaaaGreatDoorDKat
namespace Go.Proofs.YtadihfjmgckdaaaGreatDoor
open Go.RowKit

set_option maxRecDepth 100000 in
set_option maxHeartbeats 1600000 in
theorem l20Rows_any (g c n : Nat) (w : World) (h : Rd g w c) (hc : c ≤ 1000000000) (hn1 : 1 ≤ n) (hn : n ≤ 6) :
    Calls Tryz.prog 138 #[.pointer (some ⟨g, 0, none⟩), .int .i64 n, .int .i64 0] w (RetV fun v w' => ∃ xs : List Int, xs.length = n ∧ OwnI w.heap.size w'.heap.size 3 w' v xs ∧ Outside g (g + 1) w w' ∧ Rd g w' (c + 20)) := by
  have hg := h.lt
  have HR := Lib.hid h
  have HO := Lib.hid (Outside.refl g (g + 1) w)
  clear h
  have H0 : Hid (OwnI w.heap.size (w.heap.size + 1) 3 (w.alloc (.cells #[] 3)) (.slice (some ⟨w.heap.size, 0, none⟩) 0 0) []) := Lib.hid (OwnI.len (n := 0) (Own.lit 1 3 w [] 0 (by omega) rfl) rfl)
  obtain ⟨w1, hw_⟩ : ∃ w_, w_ = w.alloc (.cells #[] 3) := ⟨_, rfl⟩
  obtain ⟨h_, K_, hs1⟩ := box_facts2 hw_
  rw [← hw_] at H0
  replace HO := Lib.hid (HO.out.below h_ (by omega)); replace HR := Lib.hid (HR.out.below h_ (by omega))
  have HW := Lib.hid hw_
  clear hw_ h_ K_
  go_enter Tryz.func138, Tryz.ntmps138
  go_wp2
  simp only [← HW.out]
  go_loopw [7, 8] (fun ov iv wr => ∃ (k : Nat) (a : Option Addr) (cap : Nat) (xs : List Int), ov = .slice a xs.length cap ∧ iv = .int .i64 k ∧ xs.length = k ∧ k ≤ n ∧ Hid (OwnI w.heap.size wr.heap.size 3 wr (.slice a xs.length cap) xs ∧ Outside g (g + 1) w wr ∧ Rd g wr (c + 2 * k))) (fun _ i _ => n - (intOf i).toNat)
  case atStart => exact ⟨0, _, _, [], rfl, rfl, rfl, by omega, Lib.hid ⟨H0.out.lower (Nat.le_refl _) (by omega), HO.out, HR.out⟩⟩
  case round =>
    clear H0 HW HO HR
    obtain ⟨k, a, cap, xs, rfl, rfl, rfl, hk, HR⟩ := hrel
    have hsz := HR.out.2.1.size
    by_cases hlt : xs.length < n
    · go_wp2_with fail
      refine (pick_any g _ _ _ HR.out.2.2 (by omega)).mono ?_
      rintro e w2 ⟨q, rfl, i_, h_, r_⟩
      obtain ⟨i1, i2⟩ := i_.lt (by omega)
      replace HR := Lib.hid (And.intro ((HR.out.1.outside h_ (.inr (by omega))).lower (Nat.le_refl _) h_.size) (And.intro (HR.out.2.1.trans h_) r_))
      have hs2 := h_.size
      clear h_ r_ i_
      cases hq : q == 0
      · go_wp2_with fail
        refine (pick_any g _ _ _ HR.out.2.2 (by omega)).mono ?_
        rintro e w3 ⟨q2, rfl, i_, h_, r_⟩
        obtain ⟨j1, j2⟩ := i_.lt (by omega)
        obtain ⟨y, rfl⟩ : ∃ y : Nat, q2 = y := ⟨q2.toNat, by omega⟩
        replace HR := Lib.hid (And.intro ((HR.out.1.outside h_ (.inr (by omega))).lower (Nat.le_refl _) h_.size) (And.intro (HR.out.2.1.trans h_) r_))
        have hs3 := h_.size
        clear h_ r_ i_
        have hown := HR.out.1
        go_wp2_with (at_builtin; refine wpList_app_lit _ rfl _ _ 23 rfl 3 (.int .i64 0) 1 8 Tryz.underlying23 info_int rfl (by decide) (by decide) rfl hown 1 (ints [_]) rfl rfl (ints_one _) rfl ?c1 ?c2 ?_)
        case c1 => omega
        case c2 => omega
        intro v' w5 hown5 hout5 _
        obtain ⟨a', cap', rfl, _⟩ := Own.open hown5
        have H3 := Lib.hid (And.intro hown5 hout5)
        clear hown hown5 hout5
        go_wp2
        go_roundw
        case rel => exact ⟨xs.length + 1, a', cap', xs ++ [_], by first | rfl | (simp; done), by go_num, by simp, by omega, Lib.hid ⟨OwnI.app H3.out.1 rfl, HR.out.2.1.fresh H3.out.2 (Nat.le_refl _), (HR.out.2.2.outside H3.out.2 hg).mono (by omega)⟩⟩
        case measure => simp [intOf]; omega
      · go_wp2_with fail
        refine (pick_any g _ _ _ HR.out.2.2 (by omega)).mono ?_
        rintro e w3 ⟨q2, rfl, i_, h_, r_⟩
        replace HR := Lib.hid (And.intro ((HR.out.1.outside h_ (.inr (by omega))).lower (Nat.le_refl _) h_.size) (And.intro (HR.out.2.1.trans h_) r_))
        have hs3 := h_.size
        clear h_ r_ i_
        have hown := HR.out.1
        go_wp2_with (at_builtin; refine wpList_app_lit _ rfl _ _ 23 rfl 3 (.int .i64 0) 1 8 Tryz.underlying23 info_int rfl (by decide) (by decide) rfl hown 1 (ints [_]) rfl rfl (ints_one _) rfl ?c1 ?c2 ?_)
        case c1 => omega
        case c2 => omega
        intro v' w5 hown5 hout5 _
        obtain ⟨a', cap', rfl, _⟩ := Own.open hown5
        have H3 := Lib.hid (And.intro hown5 hout5)
        clear hown hown5 hout5
        go_wp2
        go_roundw
        case rel => exact ⟨xs.length + 1, a', cap', xs ++ [_], by first | rfl | (simp; done), by go_num, by simp, by omega, Lib.hid ⟨OwnI.app H3.out.1 rfl, HR.out.2.1.fresh H3.out.2 (Nat.le_refl _), (HR.out.2.2.outside H3.out.2 hg).mono (by omega)⟩⟩
        case measure => simp [intOf]; omega
    · obtain rfl : n = xs.length := by omega
      go_wp2_with fail
      refine (odd2_any g _ _ _ HR.out.2.2 (by omega) (by omega)).mono ?_
      rintro e w3 ⟨b, rfl, hb0, h_, r_⟩
      replace HR := Lib.hid (And.intro ((HR.out.1.outside h_ (.inr (by omega))).lower (Nat.le_refl _) h_.size) (And.intro (HR.out.2.1.trans h_) r_))
      clear h_ r_
      cases b
      · go_wp2
        go_ret
        exact RetV.mk _ rfl ⟨xs, rfl, HR.out.1, HR.out.2.1, HR.out.2.2.mono (by omega)⟩
      · exact absurd (hb0 rfl) (by omega)
end Go.Proofs.YtadihfjmgckdaaaGreatDoor
