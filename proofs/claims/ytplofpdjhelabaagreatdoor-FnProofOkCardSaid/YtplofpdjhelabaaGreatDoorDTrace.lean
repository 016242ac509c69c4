/-
  Texts of walks and plain lemmas for this seat; no condition.
-/
import Derived.Test.YtplofpdjhelabaaGreatDoorGB
namespace Go.Proofs.YtplofpdjhelabaaGreatDoor
open Go.RowKit

set_option maxHeartbeats 1600000 in
theorem l20Trace_any (g c : Nat) (most n : Int) (w : World) (h : Rd g w c) (hc : c ≤ 100000000000) (hm0 : 0 ≤ most) (hm : most ≤ 20) (hn : n ≤ 1000) :
    Calls Tryz.prog 61 #[.pointer (some ⟨g, 0, none⟩), .int .i64 most, .int .i64 n] w (RetV fun v w' => DrawnI g (c + 100) w v w' 100) := by
  have hg := h.lt
  go_enter Tryz.func61, Tryz.ntmps61
  go_wp2_with fail
  refine (pick_any g c _ _ h (by omega)).mono ?_
  rintro e w1 ⟨x1, rfl, hx1, ho1, hr1⟩
  have hg1 := hr1.lt
  go_wp2_with fail
  refine (pick_any g (c + 1) _ _ (hr1.below ((Below.refl _ _).alloc (Nat.le_refl _) _) hg1) (by omega)).mono ?_
  rintro e w2 ⟨x2, rfl, hx2, ho2, hr2⟩
  have hown0 : OwnI w1.heap.size w2.heap.size 3 w2 (.slice (some ⟨w1.heap.size, 0, none⟩) 1 1) [x1] := by
    have h0 := Own.lit 1 3 w1 (ints [x1]) 1 (by omega) rfl
    have h1 := h0.outside ho2 (.inr (by omega))
    exact h1.wide (by have := ho2.size; simp at this; omega)
  have hout0 : Outside g (g + 1) w w2 := ho1.trans ((Outside.of_below ((Below.refl _ _).alloc (Nat.le_refl _) _) (Nat.le_refl _)).trans ho2)
  have hs1 := ho1.size
  have hx2' : x2 ≤ 20 := by rcases hx2.2 with h | h <;> omega
  have H := Lib.hid (And.intro hown0 (And.intro hout0 hr2))
  clear hown0 hout0 hr2 ho1 ho2 hr1
  obtain ⟨y, rfl⟩ : ∃ y : Nat, x2 = y := ⟨x2.toNat, by have := hx2.1; omega⟩
  clear hx2
  go_wp2
  go_loopw [7, 8] (fun v i wr => ∃ (j : Nat) (xs : List Int), j ≤ y ∧ i = .int .i64 j ∧ Hid (Own 1 w.heap.size wr.heap.size 3 wr v xs.length (ints xs) ∧ xs.length ≤ 1 + 2 * (y - j) ∧ Outside g (g + 1) w wr ∧ Rd g wr (c + 2 + 2 * (y - j)))) (fun _ i _ => (intOf i).toNat)
  case atStart =>
    obtain ⟨h1, h2, h3⟩ := H.out
    exact ⟨y, [x1], Nat.le_refl _, rfl, Lib.hid ⟨Own.wide2 h1 hs1 (Nat.le_refl _), by simp, h2, h3.mono (by omega)⟩⟩
  case round =>
    obtain ⟨j, xs, hj, rfl, HR⟩ := hrel
    by_cases hj0 : 0 < j
    · have hr := HR.out.2.2.2
      go_wp2_with fail
      refine (pick_any g _ _ _ hr (by omega)).mono ?_
      rintro e w3 ⟨x3, rfl, hx3, ho3, hr3⟩
      have hb3 : x3 ≤ 2 := by rcases hx3.2 with h | h <;> omega
      have hb3' : 0 ≤ x3 := hx3.1
      go_wp2_with fail
      refine (pick_any g _ _ _ hr3 (by omega)).mono ?_
      rintro e w4 ⟨x4, rfl, hx4, ho4, hr4⟩
      obtain ⟨h1, h2, h3, _⟩ := HR.out
      have ho34 := ho3.trans ho4
      have hgw := h3.size
      have hown := Own.wide (h1.outside ho34 (.inr (by omega))) ho34.size
      have H2 := Lib.hid (And.intro h2 (And.intro (h3.trans ho34) hr4))
      clear hr hr3 hr4 ho3 ho4 h1 h2 h3 ho34 hx3 hx4 HR
      go_wp2_with (at_builtin; go_loud (refine wpList_app_lit w4 rfl _ _ 23 rfl 3 (.int .i64 0) 1 8 Tryz.underlying23 info_int rfl (by decide) (by decide) rfl hown 2 (ints [16 + x3, x4]) rfl rfl (ints_one _) rfl ?c1 ?c2 ?_))
      case c1 => have := H2.out.1; omega
      case c2 => have := H2.out.2.1.size; omega
      intro v' w5 hown5 hout5 _
      have H3 := Lib.hid (And.intro hown5 hout5)
      clear hown hown5 hout5
      go_wp2
      go_roundw
      case rel =>
        obtain ⟨h1, h2, h3⟩ := H2.out
        obtain ⟨h4, h5⟩ := H3.out
        exact ⟨j - 1, xs ++ [16 + x3, x4], by omega, by go_num, Lib.hid ⟨by rw [ints_append, List.length_append]; exact h4, by simp; omega, h2.fresh h5 (Nat.le_refl _), (h3.outside h5 hg).mono (by omega)⟩⟩
      case measure => simp [intOf]; omega
    · obtain rfl : j = 0 := by omega
      obtain ⟨h1, h2, h3, h4⟩ := HR.out
      go_wp2_with fail
      refine (odd_any g _ _ _ h4 (by omega) (by omega)).mono ?_
      rintro e w3 ⟨b, rfl, ho3, hr3⟩
      cases b
      · go_wp2
        go_ret
        exact RetV.mk _ rfl ⟨xs, oi _ _ rfl (Own.wide (h1.outside ho3 (.inr (by omega))) ho3.size), by omega, h3.trans ho3, hr3.mono (by omega)⟩
      · go_wp2_with fail
        refine (pick_any g _ _ _ hr3 (by omega)).mono ?_
        rintro e w4 ⟨x4, rfl, hx4, ho4, hr4⟩
        have ho34 := ho3.trans ho4
        have hown := Own.wide (h1.outside ho34 (.inr (by omega))) ho34.size
        have h34 := h3.trans ho34
        have hs34 := h34.size
        have hx4' : x4 = 0 ∨ x4 = 1 ∨ x4 = 2 ∨ x4 = 3 := by have := hx4.1; have := hx4.2; omega
        have H := Lib.hid (And.intro h2 (And.intro h34 hr4))
        clear h1 h3 h4 hr3 ho3 ho4 HR hx4 h34 hr4 ho34
        rcases hx4' with rfl | rfl | rfl | rfl
        · go_wp2
          go_ret
          obtain ⟨_, h1, h2⟩ := H.out
          exact RetV.mk _ rfl ⟨[], oi _ 0 rfl (Own.wide2 (Own.lit 1 3 w4 [] 0 (by omega) rfl) hs34 (by simp)), by simp, h1.below ((Below.refl _ _).alloc (Nat.le_refl _) _) hs34, (h2.below ((Below.refl _ _).alloc (Nat.le_refl _) _) h2.lt).mono (by omega)⟩
        · go_wp2_with (at_builtin; refine wpList_app_lit _ rfl _ _ 23 rfl 3 (.int .i64 0) 1 8 Tryz.underlying23 info_int rfl (by decide) (by decide) rfl hown 1 (ints [16]) rfl rfl (ints_one _) rfl ?c1 ?c2 ?_)
          case c1 => omega
          case c2 => omega
          intro v' w5 hown5 hout5 _
          have H3 := Lib.hid (And.intro hown5 hout5)
          clear hown hown5 hout5
          go_wp2
          go_ret
          obtain ⟨_, h1, h2⟩ := H.out
          obtain ⟨h3, h4⟩ := H3.out
          exact RetV.mk _ rfl ⟨xs ++ [16], oi (xs ++ [16]) (xs.length + 1) (by simp) (by rw [ints_append]; exact h3), by simp; omega, h1.fresh h4 (Nat.le_refl _), (h2.outside h4 hg).mono (by omega)⟩
        · go_wp2_with (at_builtin; refine wpList_app_lit _ rfl _ _ 23 rfl 3 (.int .i64 0) 1 8 Tryz.underlying23 info_int rfl (by decide) (by decide) rfl hown 2 (ints [19, 0]) rfl rfl (ints_one _) rfl ?c1 ?c2 ?_)
          case c1 => omega
          case c2 => omega
          intro v' w5 hown5 hout5 _
          have H3 := Lib.hid (And.intro hown5 hout5)
          clear hown hown5 hout5
          go_wp2
          go_ret
          obtain ⟨_, h1, h2⟩ := H.out
          obtain ⟨h3, h4⟩ := H3.out
          exact RetV.mk _ rfl ⟨xs ++ [19, 0], oi (xs ++ [19, 0]) (xs.length + 2) (by simp) (by rw [ints_append]; exact h3), by simp; omega, h1.fresh h4 (Nat.le_refl _), (h2.outside h4 hg).mono (by omega)⟩
        · go_wp2
          have HO := Lib.hid hown
          clear hown
          go_loopw [7] (fun v wr => ∃ (a : Option Addr) (cap : Nat) (zs : List Int), v = .slice a zs.length cap ∧ zs.length ≤ 61 ∧ Hid (Own 1 w.heap.size wr.heap.size 3 wr (.slice a zs.length cap) zs.length (ints zs)) ∧ Hid (Outside g (g + 1) w wr ∧ Rd g wr (c + 100))) (fun v _ => 42 - slLen v)
          case atStart =>
            obtain ⟨a, cap, he, _⟩ := Own.open HO.out
            obtain ⟨h0, h1, h2⟩ := H.out
            refine ⟨a, cap, xs, he, by omega, ?_, Lib.hid ⟨h1, h2.mono (by omega)⟩⟩
            rw [← he]
            exact HO
          case round =>
            obtain ⟨a, cap, zs, rfl, hz, HO2, HW⟩ := hrel
            by_cases hz2 : zs.length ≤ 41
            · have hown := HO2.out
              have hsz := HW.out.1.size
              go_wp2_with (at_builtin; refine wpList_app_lit _ rfl _ _ 23 rfl 3 (.int .i64 0) 1 8 Tryz.underlying23 info_int rfl (by decide) (by decide) rfl hown 2 (ints [16, 0]) rfl rfl (ints_one _) rfl ?c1 ?c2 ?_)
              case c1 => omega
              case c2 => omega
              intro v' w5 hown5 hout5 _
              obtain ⟨a', cap', rfl, _⟩ := Own.open hown5
              have H3 := Lib.hid (And.intro hown5 hout5)
              clear hown hown5 hout5
              go_wp2
              go_roundw
              case rel =>
                obtain ⟨h1, h2⟩ := HW.out
                obtain ⟨h3, h4⟩ := H3.out
                exact ⟨a', cap', zs ++ [16, 0], by simp, by simp; omega, Lib.hid (by rw [ints_append, List.length_append]; exact h3), Lib.hid ⟨h1.fresh h4 (Nat.le_refl _), h2.outside h4 hg⟩⟩
              case measure => simp [slLen]; omega
            · go_wp2
              go_ret
              obtain ⟨h1, h2⟩ := HW.out
              exact RetV.mk _ rfl ⟨zs, oi zs _ rfl HO2.out, by omega, h1, h2⟩
end Go.Proofs.YtplofpdjhelabaaGreatDoor
