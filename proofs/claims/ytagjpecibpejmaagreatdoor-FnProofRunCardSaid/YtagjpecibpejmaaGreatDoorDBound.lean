/-
  Texts of walks and plain lemmas for this seat; no condition.
-/
import Derived.Test.YtagjpecibpejmaaGreatDoorDLaws
namespace Go.Proofs.YtagjpecibpejmaaGreatDoor
open Go.RowKit

/-- What a draw of a list leaves that is read alone. -/
abbrev DrawnS (g c : Nat) (w : World) (most : Nat) : Ending → World → Prop := RetV fun v w' => ∃ xs : List Int, SlI w.heap.size w'.heap.size w' v xs ∧ xs.length ≤ most ∧ Outside g (g + 1) w w' ∧ Rd g w' c

set_option maxRecDepth 100000 in
set_option maxHeartbeats 6400000 in
theorem l20Bound_any (g c : Nat) (n : Int) (w : World) (h : Rd g w c) (hc : c ≤ 1000000) (hn : n ≤ 1000) :
    Calls Tryz.prog 62 #[.pointer (some ⟨g, 0, none⟩), .int .i64 n] w (DrawnS g (c + 2000) w 44) := by
  have hg := h.lt
  have HR := Lib.hid h
  have HO := Lib.hid (Outside.refl g (g + 1) w)
  clear h
  go_enter Tryz.func62, Tryz.ntmps62
  go_wp2_with fail
  refine (l20Kat_any g _ 5 n _ HR.out (by omega) (by omega) (by omega) hn).mono ?_
  rintro e w1 ⟨v_OE, rfl, es, o_, l_es, h_, r_⟩
  have hs1 := h_.size
  replace HO := Lib.hid (HO.out.trans h_)
  replace HR := Lib.hid r_
  clear h_ r_
  have OE := Lib.hid o_
  clear o_
  obtain ⟨a_OE, c_OE, rfl, _, _⟩ := Sl.shape OE.out.sl
  replace OE := Lib.hid OE.out.sl
  go_wp2_with fail
  refine (pick_any g _ _ _ HR.out (by omega)).mono ?_
  rintro e w2 ⟨q, rfl, i_, h_, r_⟩
  obtain ⟨i1_q, i2_q⟩ := i_.lt (by omega)
  clear i_
  have hs2 := h_.size
  replace OE := Lib.hid (OE.out.outside h_ (.inr (by omega)))
  replace HO := Lib.hid (HO.out.trans h_)
  replace HR := Lib.hid r_
  clear h_ r_
  cases hq : q == 0
  · skip
    go_wp2
    go_ret
    exact RetV.mk _ rfl ⟨es, OE.out.wide (by omega) (by omega), by omega, HO.out, HR.out.mono (by omega)⟩
  · skip
    go_wp2_with fail
    refine (l20Laws_any g _ _ HR.out (by omega)).mono ?_
    rintro e w3 ⟨va, vb, rfl, xs, ys, o1_, o2_, l1, l2, h_, r_⟩
    have hs3 := h_.size
    replace OE := Lib.hid (OE.out.outside h_ (.inr (by omega)))
    replace HO := Lib.hid (HO.out.trans h_)
    replace HR := Lib.hid r_
    clear h_ r_
    have OX := Lib.hid o1_
    have OY := Lib.hid o2_
    obtain ⟨ax, cx, rfl, _, _⟩ := Sl.shape o1_
    obtain ⟨ay, cy, rfl, _, _⟩ := Sl.shape o2_
    clear o1_ o2_
    go_wp2_with fail
    refine (pick_any g _ _ _ HR.out (by omega)).mono ?_
    rintro e w4 ⟨q2, rfl, i_, h_, r_⟩
    obtain ⟨i1_q2, i2_q2⟩ := i_.lt (by omega)
    clear i_
    have hs4 := h_.size
    replace OE := Lib.hid (OE.out.outside h_ (.inr (by omega))); replace OX := Lib.hid (OX.out.outside h_ (.inr (by omega))); replace OY := Lib.hid (OY.out.outside h_ (.inr (by omega)))
    replace HO := Lib.hid (HO.out.trans h_)
    replace HR := Lib.hid r_
    clear h_ r_
    cases hq2 : q2 == 0
    · skip
      by_cases h20 : xs.length < 20
      · have h20i : (xs.length : Int) < 20 := by omega
        go_wp2_with fail
        refine (pick_any g _ _ _ HR.out (by omega)).mono ?_
        rintro e w5 ⟨q3, rfl, i_, h_, r_⟩
        obtain ⟨i1_q3, i2_q3⟩ := i_.lt (by omega)
        clear i_
        have hs5 := h_.size
        replace OE := Lib.hid (OE.out.outside h_ (.inr (by omega))); replace OX := Lib.hid (OX.out.outside h_ (.inr (by omega))); replace OY := Lib.hid (OY.out.outside h_ (.inr (by omega)))
        replace HO := Lib.hid (HO.out.trans h_)
        replace HR := Lib.hid r_
        clear h_ r_
        cases hq3 : q3 == 0
        · skip
          go_wp2
          go_ret
          exact RetV.mk _ rfl ⟨xs, OX.out.wide (by omega) (by omega), by omega, HO.out, HR.out.mono (by omega)⟩
        · skip
          go_wp2_with fail
          refine (pick_any g _ _ _ HR.out (by omega)).mono ?_
          rintro e w6 ⟨q4, rfl, i_, h_, r_⟩
          obtain ⟨i1_q4, i2_q4⟩ := i_.lt (by omega)
          clear i_
          have hs6 := h_.size
          replace OE := Lib.hid (OE.out.outside h_ (.inr (by omega))); replace OX := Lib.hid (OX.out.outside h_ (.inr (by omega))); replace OY := Lib.hid (OY.out.outside h_ (.inr (by omega)))
          replace HO := Lib.hid (HO.out.trans h_)
          replace HR := Lib.hid r_
          clear h_ r_
          go_wp2_with fail
          obtain ⟨w7, hw_⟩ : ∃ w_, w_ = w6.alloc (.cells #[.int .i64 (q4 * 15)] 3) := ⟨_, rfl⟩
          obtain ⟨h_, K_, hs7⟩ := box_facts2 hw_
          have HL_ := Lib.hid hw_
          simp only [← hw_]
          clear hw_
          replace OE := Lib.hid (OE.out.below h_ (by omega)); replace OX := Lib.hid (OX.out.below h_ (by omega)); replace OY := Lib.hid (OY.out.below h_ (by omega)); replace HO := Lib.hid (HO.out.below h_ (by omega)); replace HR := Lib.hid (HR.out.below h_ (by omega))
          clear h_
          have OL : Hid (OwnI w6.heap.size w7.heap.size 3 w7 (.slice (some ⟨w6.heap.size, 0, none⟩) 1 1) [q4 * 15]) := Lib.hid (by rw [HL_.out]; exact one_own _ _)
          clear HL_ K_
          skip
          refine (pick_any g _ _ _ HR.out (by omega)).mono ?_
          rintro e w8 ⟨q5, rfl, i_, h_, r_⟩
          obtain ⟨i1_q5, i2_q5⟩ := i_.lt (by omega)
          clear i_
          have hs8 := h_.size
          replace OE := Lib.hid (OE.out.outside h_ (.inr (by omega))); replace OX := Lib.hid (OX.out.outside h_ (.inr (by omega))); replace OY := Lib.hid (OY.out.outside h_ (.inr (by omega))); replace OL := Lib.hid (OL.out.outside h_ (.inr (by omega)))
          replace HO := Lib.hid (HO.out.trans h_)
          replace HR := Lib.hid r_
          clear h_ r_
          go_wp2_with fail
          refine (l2Join_any _ _ _ _ _ _ xs [q4 * 15] (19 + q5) _ OX.out OL.out.sl (by omega) (by omega) (by simp; omega)).mono ?_
          rintro e w9 ⟨v_J, rfl, h_, o_⟩
          have hs9 := h_.size
          replace OE := Lib.hid (OE.out.below h_ (by omega)); replace OX := Lib.hid (OX.out.below h_ (by omega)); replace OY := Lib.hid (OY.out.below h_ (by omega)); replace OL := Lib.hid (OL.out.below h_ (by omega)); replace HO := Lib.hid (HO.out.below h_ (by omega)); replace HR := Lib.hid (HR.out.below h_ (by omega))
          clear h_
          have lj : (xs ++ [q4 * 15] ++ [19 + q5]).length ≤ xs.length + 2 := by simp
          generalize xs ++ [q4 * 15] ++ [19 + q5] = js at o_ lj
          have J := Lib.hid o_
          obtain ⟨aj, cj, rfl, _⟩ := Own.open o_
          clear o_
          go_wp2
          go_ret
          exact RetV.mk _ rfl ⟨js, J.out.sl.wide (by omega) (by omega), by omega, HO.out, HR.out.mono (by omega)⟩
      · have h20i : ¬ (xs.length : Int) < 20 := by omega
        go_wp2
        go_ret
        exact RetV.mk _ rfl ⟨xs, OX.out.wide (by omega) (by omega), by omega, HO.out, HR.out.mono (by omega)⟩
    · skip
      by_cases h20 : ys.length < 20
      · have h20i : (ys.length : Int) < 20 := by omega
        go_wp2_with fail
        refine (pick_any g _ _ _ HR.out (by omega)).mono ?_
        rintro e w5 ⟨q3, rfl, i_, h_, r_⟩
        obtain ⟨i1_q3, i2_q3⟩ := i_.lt (by omega)
        clear i_
        have hs5 := h_.size
        replace OE := Lib.hid (OE.out.outside h_ (.inr (by omega))); replace OX := Lib.hid (OX.out.outside h_ (.inr (by omega))); replace OY := Lib.hid (OY.out.outside h_ (.inr (by omega)))
        replace HO := Lib.hid (HO.out.trans h_)
        replace HR := Lib.hid r_
        clear h_ r_
        cases hq3 : q3 == 0
        · skip
          go_wp2
          go_ret
          exact RetV.mk _ rfl ⟨ys, OY.out.wide (by omega) (by omega), by omega, HO.out, HR.out.mono (by omega)⟩
        · skip
          go_wp2_with fail
          refine (pick_any g _ _ _ HR.out (by omega)).mono ?_
          rintro e w6 ⟨q4, rfl, i_, h_, r_⟩
          obtain ⟨i1_q4, i2_q4⟩ := i_.lt (by omega)
          clear i_
          have hs6 := h_.size
          replace OE := Lib.hid (OE.out.outside h_ (.inr (by omega))); replace OX := Lib.hid (OX.out.outside h_ (.inr (by omega))); replace OY := Lib.hid (OY.out.outside h_ (.inr (by omega)))
          replace HO := Lib.hid (HO.out.trans h_)
          replace HR := Lib.hid r_
          clear h_ r_
          go_wp2_with fail
          obtain ⟨w7, hw_⟩ : ∃ w_, w_ = w6.alloc (.cells #[.int .i64 (q4 * 15)] 3) := ⟨_, rfl⟩
          obtain ⟨h_, K_, hs7⟩ := box_facts2 hw_
          have HL_ := Lib.hid hw_
          simp only [← hw_]
          clear hw_
          replace OE := Lib.hid (OE.out.below h_ (by omega)); replace OX := Lib.hid (OX.out.below h_ (by omega)); replace OY := Lib.hid (OY.out.below h_ (by omega)); replace HO := Lib.hid (HO.out.below h_ (by omega)); replace HR := Lib.hid (HR.out.below h_ (by omega))
          clear h_
          have OL : Hid (OwnI w6.heap.size w7.heap.size 3 w7 (.slice (some ⟨w6.heap.size, 0, none⟩) 1 1) [q4 * 15]) := Lib.hid (by rw [HL_.out]; exact one_own _ _)
          clear HL_ K_
          skip
          refine (pick_any g _ _ _ HR.out (by omega)).mono ?_
          rintro e w8 ⟨q5, rfl, i_, h_, r_⟩
          obtain ⟨i1_q5, i2_q5⟩ := i_.lt (by omega)
          clear i_
          have hs8 := h_.size
          replace OE := Lib.hid (OE.out.outside h_ (.inr (by omega))); replace OX := Lib.hid (OX.out.outside h_ (.inr (by omega))); replace OY := Lib.hid (OY.out.outside h_ (.inr (by omega))); replace OL := Lib.hid (OL.out.outside h_ (.inr (by omega)))
          replace HO := Lib.hid (HO.out.trans h_)
          replace HR := Lib.hid r_
          clear h_ r_
          go_wp2_with fail
          refine (l2Join_any _ _ _ _ _ _ ys [q4 * 15] (19 + q5) _ OY.out OL.out.sl (by omega) (by omega) (by simp; omega)).mono ?_
          rintro e w9 ⟨v_J, rfl, h_, o_⟩
          have hs9 := h_.size
          replace OE := Lib.hid (OE.out.below h_ (by omega)); replace OX := Lib.hid (OX.out.below h_ (by omega)); replace OY := Lib.hid (OY.out.below h_ (by omega)); replace OL := Lib.hid (OL.out.below h_ (by omega)); replace HO := Lib.hid (HO.out.below h_ (by omega)); replace HR := Lib.hid (HR.out.below h_ (by omega))
          clear h_
          have lj : (ys ++ [q4 * 15] ++ [19 + q5]).length ≤ ys.length + 2 := by simp
          generalize ys ++ [q4 * 15] ++ [19 + q5] = js at o_ lj
          have J := Lib.hid o_
          obtain ⟨aj, cj, rfl, _⟩ := Own.open o_
          clear o_
          go_wp2
          go_ret
          exact RetV.mk _ rfl ⟨js, J.out.sl.wide (by omega) (by omega), by omega, HO.out, HR.out.mono (by omega)⟩
      · have h20i : ¬ (ys.length : Int) < 20 := by omega
        go_wp2
        go_ret
        exact RetV.mk _ rfl ⟨ys, OY.out.wide (by omega) (by omega), by omega, HO.out, HR.out.mono (by omega)⟩
end Go.Proofs.YtagjpecibpejmaaGreatDoor
