/-
  Texts of walks and plain lemmas for this seat; no condition.
-/
import Derived.Test.YtnpnpafdklcjmaaDNew2
namespace Go.Proofs.Ytnpnpafdklcjmaa
open Go.RowKit

theorem box_facts {w w0 : World} {o : Obj} (h : w0 = w.alloc o) : Below w.heap.size w w0 ∧ Blk w.heap.size o w0 ∧ w.heap.size + 1 ≤ w0.heap.size := by
  subst h
  exact ⟨(Below.refl _ _).alloc (Nat.le_refl _) _, Blk.new w o, by simp⟩
theorem deskNew_size (xs ys : List Int) : (deskNew xs ys).size ≤ 120 := by
  unfold deskNew
  split
  · rename_i h
    simp only [katV, Bool.and_eq_true, decide_eq_true_eq] at h
    simp [Dsk.size]
    omega
  · simp [Dsk.none, Dsk.size]
theorem Dsk.count_nonneg (d : Dsk) (k : Int) (h : 0 ≤ k) : ¬ d.count k < 0 := by
  unfold Dsk.count
  omega

set_option maxHeartbeats 6400000 in
theorem law_FnExactDeskNew (v : Value) (xs : List Int) (v' : Value) (ys : List Int) (w : World) (hx : SlI 0 w.heap.size w v xs) (hy : SlI 0 w.heap.size w v' ys) :
    Calls Try.prog 5 #[v, v'] w fun e w' => e = .returned (.bool true) ∧ Below w.heap.size w w' := by
  have HX := Lib.hid hx
  have HY := Lib.hid hy
  obtain ⟨a, cap, rfl, hcap, hcm⟩ := Sl.shape hx
  obtain ⟨a', cap', rfl, hcap', hcm'⟩ := Sl.shape hy
  unfold maxLen at hcm hcm'
  clear hx hy
  by_cases hm : xs.length ≤ 1048576
  · by_cases hm' : ys.length ≤ 1048576
    · have hD := deskNew_size xs ys
      generalize hd : deskNew xs ys = D at hD
      have HD := Lib.hid hd
      clear hd
      have hneg : ¬ D.count 1 < 0 := Dsk.count_nonneg D 1 (by omega)
      have hcnt : (D.count 1 != D.count 1) = false := by simp
      go_enter Try.func5, Try.ntmps5
      go_wp2_with fail
      refine (toIntS_any _ _ _ xs _ HX.out hm).mono ?_
      rintro e w1 ⟨v_O1, rfl, h_, o_⟩
      have hs1 := h_.size
      replace HX := Lib.hid (HX.out.below h_ (by omega)); replace HY := Lib.hid (HY.out.below h_ (by omega))
      have HB := Lib.hid (h_)
      have O1 := Lib.hid (o_)
      clear o_
      clear h_
      go_wp2_with fail
      refine (toIntS_any _ _ _ ys _ HY.out hm').mono ?_
      rintro e w2 ⟨v_O2, rfl, h_, o_⟩
      have hs2 := h_.size
      replace HX := Lib.hid (HX.out.below h_ (by omega)); replace HY := Lib.hid (HY.out.below h_ (by omega)); replace O1 := Lib.hid (O1.out.below h_ (by omega))
      replace HB := Lib.hid (HB.out.trans (h_.mono (by omega)))
      have O2 := Lib.hid (o_)
      clear o_
      clear h_
      go_wp2_with fail
      refine (spec_DeskNew _ _ _ _ _ _ xs ys _ O1.out.sl O2.out.sl (by omega) (by omega) hm hm').mono ?_
      rintro e w3 ⟨d1, d2, d3, d4, rfl, od, h_⟩
      have hs3 := h_.size
      replace HX := Lib.hid (HX.out.below h_ (by omega)); replace HY := Lib.hid (HY.out.below h_ (by omega))
      replace HB := Lib.hid (HB.out.trans (h_.mono (by omega)))
      have OD := Lib.hid (HD.out ▸ od.at)
      clear od
      clear h_
      clear O1
      clear O2
      obtain ⟨d1, dt1, rfl, _, _⟩ := Sl.shape OD.out.first
      obtain ⟨d2, dt2, rfl, _, _⟩ := Sl.shape OD.out.goal
      obtain ⟨d3, dt3, rfl, _, _⟩ := Sl.shape OD.out.made
      obtain ⟨d4, dt4, rfl, _, _⟩ := Sl.shape OD.out.now
      go_wp2_with fail
      obtain ⟨w4, hw_⟩ : ∃ w_, w_ = w3.alloc (.cells #[.slice d1 D.first.length dt1, .slice d2 D.goal.length dt2, .slice d3 D.made.length dt3, .slice d4 D.now.length dt4] 33) := ⟨_, rfl⟩
      obtain ⟨h_, K_, hs4⟩ := box_facts hw_
      simp only [← hw_]
      clear hw_
      replace HX := Lib.hid (HX.out.below h_ (by omega)); replace HY := Lib.hid (HY.out.below h_ (by omega)); replace OD := Lib.hid (OD.out.below h_ (by omega))
      replace HB := Lib.hid (HB.out.trans (h_.mono (by omega)))
      have KD := Lib.hid K_
      clear h_ K_
      skip
      refine (toIntS_any _ _ _ xs _ HX.out hm).mono ?_
      rintro e w5 ⟨v_O1, rfl, h_, o_⟩
      have hs5 := h_.size
      replace HX := Lib.hid (HX.out.below h_ (by omega)); replace HY := Lib.hid (HY.out.below h_ (by omega)); replace OD := Lib.hid (OD.out.below h_ (by omega)); replace KD := Lib.hid (KD.out.below h_ (by omega))
      replace HB := Lib.hid (HB.out.trans (h_.mono (by omega)))
      have O1 := Lib.hid (o_)
      clear o_
      clear h_
      go_wp2_with fail
      refine (toIntS_any _ _ _ ys _ HY.out hm').mono ?_
      rintro e w6 ⟨v_O2, rfl, h_, o_⟩
      have hs6 := h_.size
      replace HX := Lib.hid (HX.out.below h_ (by omega)); replace HY := Lib.hid (HY.out.below h_ (by omega)); replace OD := Lib.hid (OD.out.below h_ (by omega)); replace KD := Lib.hid (KD.out.below h_ (by omega)); replace O1 := Lib.hid (O1.out.below h_ (by omega))
      replace HB := Lib.hid (HB.out.trans (h_.mono (by omega)))
      have O2 := Lib.hid (o_)
      clear o_
      clear h_
      go_wp2_with fail
      refine (impl_DeskNew _ _ _ _ _ _ xs ys _ O1.out.sl O2.out.sl (by omega) (by omega) hm hm').mono ?_
      rintro e w7 ⟨d1, d2, d3, d4, rfl, od, h_⟩
      have hs7 := h_.size
      replace HX := Lib.hid (HX.out.below h_ (by omega)); replace HY := Lib.hid (HY.out.below h_ (by omega)); replace OD := Lib.hid (OD.out.below h_ (by omega)); replace KD := Lib.hid (KD.out.below h_ (by omega)); replace O1 := Lib.hid (O1.out.below h_ (by omega)); replace O2 := Lib.hid (O2.out.below h_ (by omega))
      replace HB := Lib.hid (HB.out.trans (h_.mono (by omega)))
      have OG := Lib.hid (HD.out ▸ od)
      clear od
      clear h_
      obtain ⟨g1, gt1, rfl, _, _⟩ := Sl.shape OG.out.at.first
      obtain ⟨g2, gt2, rfl, _, _⟩ := Sl.shape OG.out.at.goal
      obtain ⟨g3, gt3, rfl, _, _⟩ := Sl.shape OG.out.at.made
      obtain ⟨g4, gt4, rfl, _, _⟩ := Sl.shape OG.out.at.now
      have hlt_ : w3.heap.size < w7.heap.size := by omega
      have c_KD_0 := KD.out.cell 0
      have c_KD_1 := KD.out.cell 1
      have c_KD_2 := KD.out.cell 2
      have c_KD_3 := KD.out.cell 3
      go_wp2_with fail
      obtain ⟨w8, hw_⟩ : ∃ w_, w_ = w7.alloc (.cells #[.slice g1 D.first.length gt1, .slice g2 D.goal.length gt2, .slice g3 D.made.length gt3, .slice g4 D.now.length gt4] 33) := ⟨_, rfl⟩
      obtain ⟨h_, K_, hs8⟩ := box_facts hw_
      simp only [← hw_]
      clear hw_
      replace HX := Lib.hid (HX.out.below h_ (by omega)); replace HY := Lib.hid (HY.out.below h_ (by omega)); replace OD := Lib.hid (OD.out.below h_ (by omega)); replace KD := Lib.hid (KD.out.below h_ (by omega)); replace O1 := Lib.hid (O1.out.below h_ (by omega)); replace O2 := Lib.hid (O2.out.below h_ (by omega)); replace OG := Lib.hid (OG.out.below h_ (by omega))
      replace HB := Lib.hid (HB.out.trans (h_.mono (by omega)))
      have KG := Lib.hid K_
      clear h_ K_
      clear c_KD_0 c_KD_1 c_KD_2 c_KD_3
      skip
      refine (eqDesk_same _ _ _ _ _ _ _ _ _ _ _ _ D _ OG.out.at OD.out (by omega) (by omega) (by omega)).mono ?_
      rintro e w9 ⟨rfl, h_⟩
      have hs9 := h_.size
      replace HX := Lib.hid (HX.out.below h_ (by omega)); replace HY := Lib.hid (HY.out.below h_ (by omega)); replace OD := Lib.hid (OD.out.below h_ (by omega)); replace KD := Lib.hid (KD.out.below h_ (by omega)); replace O1 := Lib.hid (O1.out.below h_ (by omega)); replace O2 := Lib.hid (O2.out.below h_ (by omega)); replace OG := Lib.hid (OG.out.below h_ (by omega)); replace KG := Lib.hid (KG.out.below h_ (by omega))
      replace HB := Lib.hid (HB.out.trans (h_.mono (by omega)))
      clear h_
      go_wp2_with fail
      refine (toIntS_any _ _ _ xs _ HX.out hm).mono ?_
      rintro e w10 ⟨v_O3, rfl, h_, o_⟩
      have hs10 := h_.size
      replace HX := Lib.hid (HX.out.below h_ (by omega)); replace HY := Lib.hid (HY.out.below h_ (by omega)); replace OD := Lib.hid (OD.out.below h_ (by omega)); replace KD := Lib.hid (KD.out.below h_ (by omega)); replace O1 := Lib.hid (O1.out.below h_ (by omega)); replace O2 := Lib.hid (O2.out.below h_ (by omega)); replace OG := Lib.hid (OG.out.below h_ (by omega)); replace KG := Lib.hid (KG.out.below h_ (by omega))
      replace HB := Lib.hid (HB.out.trans (h_.mono (by omega)))
      have O3 := Lib.hid (o_)
      clear o_
      clear h_
      go_wp2_with fail
      refine (eqIntS_same _ _ _ _ _ _ xs _ O1.out.sl O3.out.sl hm).mono ?_
      rintro e w11 ⟨rfl, h_⟩
      have hs11 := h_.size
      replace HX := Lib.hid (HX.out.below h_ (by omega)); replace HY := Lib.hid (HY.out.below h_ (by omega)); replace OD := Lib.hid (OD.out.below h_ (by omega)); replace KD := Lib.hid (KD.out.below h_ (by omega)); replace O1 := Lib.hid (O1.out.below h_ (by omega)); replace O2 := Lib.hid (O2.out.below h_ (by omega)); replace OG := Lib.hid (OG.out.below h_ (by omega)); replace KG := Lib.hid (KG.out.below h_ (by omega))
      replace HB := Lib.hid (HB.out.trans (h_.mono (by omega)))
      clear h_
      clear O3
      go_wp2_with fail
      refine (toIntS_any _ _ _ ys _ HY.out hm').mono ?_
      rintro e w12 ⟨v_O3, rfl, h_, o_⟩
      have hs12 := h_.size
      replace HX := Lib.hid (HX.out.below h_ (by omega)); replace HY := Lib.hid (HY.out.below h_ (by omega)); replace OD := Lib.hid (OD.out.below h_ (by omega)); replace KD := Lib.hid (KD.out.below h_ (by omega)); replace O1 := Lib.hid (O1.out.below h_ (by omega)); replace O2 := Lib.hid (O2.out.below h_ (by omega)); replace OG := Lib.hid (OG.out.below h_ (by omega)); replace KG := Lib.hid (KG.out.below h_ (by omega))
      replace HB := Lib.hid (HB.out.trans (h_.mono (by omega)))
      have O3 := Lib.hid (o_)
      clear o_
      clear h_
      go_wp2_with fail
      refine (eqIntS_same _ _ _ _ _ _ ys _ O2.out.sl O3.out.sl hm').mono ?_
      rintro e w13 ⟨rfl, h_⟩
      have hs13 := h_.size
      replace HX := Lib.hid (HX.out.below h_ (by omega)); replace HY := Lib.hid (HY.out.below h_ (by omega)); replace OD := Lib.hid (OD.out.below h_ (by omega)); replace KD := Lib.hid (KD.out.below h_ (by omega)); replace O1 := Lib.hid (O1.out.below h_ (by omega)); replace O2 := Lib.hid (O2.out.below h_ (by omega)); replace OG := Lib.hid (OG.out.below h_ (by omega)); replace KG := Lib.hid (KG.out.below h_ (by omega))
      replace HB := Lib.hid (HB.out.trans (h_.mono (by omega)))
      clear h_
      clear O3
      go_wp2_with fail
      refine (markIntS_any _ _ _ xs 1 _ O1.out hm (by omega) (by omega)).mono ?_
      rintro e w14 ⟨rfl, h_, o_⟩
      have hs14 := h_.size
      replace HX := Lib.hid (HX.out.outside h_ (by omega)); replace HY := Lib.hid (HY.out.outside h_ (by omega)); replace OD := Lib.hid (OD.out.outside h_ (by omega)); replace KD := Lib.hid (KD.out.outside h_ (by omega)); replace O2 := Lib.hid (O2.out.outside h_ (by omega)); replace OG := Lib.hid (OG.out.outside h_ (by omega)); replace KG := Lib.hid (KG.out.outside h_ (by omega))
      replace HB := Lib.hid (Below.outside HB.out h_ (by omega) (by omega))
      clear O1 o_
      clear h_
      go_wp2_with fail
      refine (markIntS_any _ _ _ ys _ _ O2.out hm' (by omega) (by omega)).mono ?_
      rintro e w15 ⟨rfl, h_, o_⟩
      have hs15 := h_.size
      replace HX := Lib.hid (HX.out.outside h_ (by omega)); replace HY := Lib.hid (HY.out.outside h_ (by omega)); replace OD := Lib.hid (OD.out.outside h_ (by omega)); replace KD := Lib.hid (KD.out.outside h_ (by omega)); replace OG := Lib.hid (OG.out.outside h_ (by omega)); replace KG := Lib.hid (KG.out.outside h_ (by omega))
      replace HB := Lib.hid (Below.outside HB.out h_ (by omega) (by omega))
      clear O2 o_
      clear h_
      have c_KG_0 := KG.out.cell 0
      have c_KG_1 := KG.out.cell 1
      have c_KG_2 := KG.out.cell 2
      have c_KG_3 := KG.out.cell 3
      have c_KD_0 := KD.out.cell 0
      have c_KD_1 := KD.out.cell 1
      have c_KD_2 := KD.out.cell 2
      have c_KD_3 := KD.out.cell 3
      go_wp2_with fail
      clear c_KG_0 c_KG_1 c_KG_2 c_KG_3 c_KD_0 c_KD_1 c_KD_2 c_KD_3
      refine (eqDesk_same _ _ _ _ _ _ _ _ _ _ _ _ D _ OG.out.at OD.out (by omega) (by omega) (by omega)).mono ?_
      rintro e w16 ⟨rfl, h_⟩
      have hs16 := h_.size
      replace HX := Lib.hid (HX.out.below h_ (by omega)); replace HY := Lib.hid (HY.out.below h_ (by omega)); replace OD := Lib.hid (OD.out.below h_ (by omega)); replace KD := Lib.hid (KD.out.below h_ (by omega)); replace OG := Lib.hid (OG.out.below h_ (by omega)); replace KG := Lib.hid (KG.out.below h_ (by omega))
      replace HB := Lib.hid (HB.out.trans (h_.mono (by omega)))
      clear h_
      have c_KG_0 := KG.out.cell 0
      have c_KG_1 := KG.out.cell 1
      have c_KG_2 := KG.out.cell 2
      have c_KG_3 := KG.out.cell 3
      go_wp2_with fail
      clear c_KG_0 c_KG_1 c_KG_2 c_KG_3
      refine (markDesk_any _ _ _ _ _ _ D 1 _ OG.out (by omega) (by omega) (by omega) (by omega)).mono ?_
      rintro e w17 ⟨rfl, h_, o_⟩
      have hs17 := h_.size
      replace HX := Lib.hid (HX.out.outside h_ (by omega)); replace HY := Lib.hid (HY.out.outside h_ (by omega)); replace OD := Lib.hid (OD.out.outside h_ (by omega)); replace KD := Lib.hid (KD.out.outside h_ (by omega)); replace KG := Lib.hid (KG.out.outside h_ (by omega))
      replace HB := Lib.hid (Below.outside HB.out h_ (by omega) (by omega))
      replace OG := Lib.hid (o_)
      clear o_
      clear h_
      have c_KG_0 := KG.out.cell 0
      have c_KG_1 := KG.out.cell 1
      have c_KG_2 := KG.out.cell 2
      have c_KG_3 := KG.out.cell 3
      go_wp2_with fail
      clear c_KG_0 c_KG_1 c_KG_2 c_KG_3
      refine (heldDesk_any _ _ _ _ _ _ D 1 _ OG.out.at (by omega) (by omega) (by omega) (by omega)).mono ?_
      rintro e w18 ⟨rfl, h_⟩
      have hs18 := h_.size
      replace HX := Lib.hid (HX.out.below h_ (by omega)); replace HY := Lib.hid (HY.out.below h_ (by omega)); replace OD := Lib.hid (OD.out.below h_ (by omega)); replace KD := Lib.hid (KD.out.below h_ (by omega)); replace OG := Lib.hid (OG.out.below h_ (by omega)); replace KG := Lib.hid (KG.out.below h_ (by omega))
      replace HB := Lib.hid (HB.out.trans (h_.mono (by omega)))
      clear h_
      go_wp2_with fail
      refine (toIntS_any _ _ _ xs _ HX.out hm).mono ?_
      rintro e w19 ⟨v_O1, rfl, h_, o_⟩
      have hs19 := h_.size
      replace HX := Lib.hid (HX.out.below h_ (by omega)); replace HY := Lib.hid (HY.out.below h_ (by omega)); replace OD := Lib.hid (OD.out.below h_ (by omega)); replace KD := Lib.hid (KD.out.below h_ (by omega)); replace OG := Lib.hid (OG.out.below h_ (by omega)); replace KG := Lib.hid (KG.out.below h_ (by omega))
      replace HB := Lib.hid (HB.out.trans (h_.mono (by omega)))
      have O1 := Lib.hid (o_)
      clear o_
      clear h_
      go_wp2_with fail
      refine (toIntS_any _ _ _ ys _ HY.out hm').mono ?_
      rintro e w20 ⟨v_O2, rfl, h_, o_⟩
      have hs20 := h_.size
      replace HX := Lib.hid (HX.out.below h_ (by omega)); replace HY := Lib.hid (HY.out.below h_ (by omega)); replace OD := Lib.hid (OD.out.below h_ (by omega)); replace KD := Lib.hid (KD.out.below h_ (by omega)); replace OG := Lib.hid (OG.out.below h_ (by omega)); replace KG := Lib.hid (KG.out.below h_ (by omega)); replace O1 := Lib.hid (O1.out.below h_ (by omega))
      replace HB := Lib.hid (HB.out.trans (h_.mono (by omega)))
      have O2 := Lib.hid (o_)
      clear o_
      clear h_
      go_wp2_with fail
      refine (impl_DeskNew _ _ _ _ _ _ xs ys _ O1.out.sl O2.out.sl (by omega) (by omega) hm hm').mono ?_
      rintro e w21 ⟨d1, d2, d3, d4, rfl, od, h_⟩
      have hs21 := h_.size
      replace HX := Lib.hid (HX.out.below h_ (by omega)); replace HY := Lib.hid (HY.out.below h_ (by omega)); replace OD := Lib.hid (OD.out.below h_ (by omega)); replace KD := Lib.hid (KD.out.below h_ (by omega)); replace OG := Lib.hid (OG.out.below h_ (by omega)); replace KG := Lib.hid (KG.out.below h_ (by omega))
      replace HB := Lib.hid (HB.out.trans (h_.mono (by omega)))
      have OH := Lib.hid (HD.out ▸ od.at)
      clear od
      clear h_
      clear O1
      clear O2
      obtain ⟨h1, ht1, rfl, _, _⟩ := Sl.shape OH.out.first
      obtain ⟨h2, ht2, rfl, _, _⟩ := Sl.shape OH.out.goal
      obtain ⟨h3, ht3, rfl, _, _⟩ := Sl.shape OH.out.made
      obtain ⟨h4, ht4, rfl, _, _⟩ := Sl.shape OH.out.now
      have hlt_ : w3.heap.size < w21.heap.size := by omega
      have c_KD_0 := KD.out.cell 0
      have c_KD_1 := KD.out.cell 1
      have c_KD_2 := KD.out.cell 2
      have c_KD_3 := KD.out.cell 3
      go_wp2_with fail
      obtain ⟨w22, hw_⟩ : ∃ w_, w_ = w21.alloc (.cells #[.slice h1 D.first.length ht1, .slice h2 D.goal.length ht2, .slice h3 D.made.length ht3, .slice h4 D.now.length ht4] 33) := ⟨_, rfl⟩
      obtain ⟨h_, K_, hs22⟩ := box_facts hw_
      simp only [← hw_]
      clear hw_
      replace HX := Lib.hid (HX.out.below h_ (by omega)); replace HY := Lib.hid (HY.out.below h_ (by omega)); replace OD := Lib.hid (OD.out.below h_ (by omega)); replace KD := Lib.hid (KD.out.below h_ (by omega)); replace OG := Lib.hid (OG.out.below h_ (by omega)); replace KG := Lib.hid (KG.out.below h_ (by omega)); replace OH := Lib.hid (OH.out.below h_ (by omega))
      replace HB := Lib.hid (HB.out.trans (h_.mono (by omega)))
      have KH := Lib.hid K_
      clear h_ K_
      clear c_KD_0 c_KD_1 c_KD_2 c_KD_3
      skip
      refine (eqDesk_same _ _ _ _ _ _ _ _ _ _ _ _ D _ OH.out OD.out (by omega) (by omega) (by omega)).mono ?_
      rintro e w23 ⟨rfl, h_⟩
      have hs23 := h_.size
      replace HX := Lib.hid (HX.out.below h_ (by omega)); replace HY := Lib.hid (HY.out.below h_ (by omega)); replace OD := Lib.hid (OD.out.below h_ (by omega)); replace KD := Lib.hid (KD.out.below h_ (by omega)); replace OG := Lib.hid (OG.out.below h_ (by omega)); replace KG := Lib.hid (KG.out.below h_ (by omega)); replace OH := Lib.hid (OH.out.below h_ (by omega)); replace KH := Lib.hid (KH.out.below h_ (by omega))
      replace HB := Lib.hid (HB.out.trans (h_.mono (by omega)))
      clear h_
      have c_KG_0 := KG.out.cell 0
      have c_KG_1 := KG.out.cell 1
      have c_KG_2 := KG.out.cell 2
      have c_KG_3 := KG.out.cell 3
      go_wp2_with fail
      clear c_KG_0 c_KG_1 c_KG_2 c_KG_3
      refine (heldDesk_any _ _ _ _ _ _ D 1 _ OG.out.at (by omega) (by omega) (by omega) (by omega)).mono ?_
      rintro e w24 ⟨rfl, h_⟩
      have hs24 := h_.size
      replace HX := Lib.hid (HX.out.below h_ (by omega)); replace HY := Lib.hid (HY.out.below h_ (by omega)); replace OD := Lib.hid (OD.out.below h_ (by omega)); replace KD := Lib.hid (KD.out.below h_ (by omega)); replace OG := Lib.hid (OG.out.below h_ (by omega)); replace KG := Lib.hid (KG.out.below h_ (by omega)); replace OH := Lib.hid (OH.out.below h_ (by omega)); replace KH := Lib.hid (KH.out.below h_ (by omega))
      replace HB := Lib.hid (HB.out.trans (h_.mono (by omega)))
      clear h_
      go_wp2
      go_ret
      exact ⟨rfl, HB.out⟩
    · go_enter Try.func5, Try.ntmps5
      go_wp2
      go_ret
      exact ⟨rfl, Below.refl _ _⟩
  · go_enter Try.func5, Try.ntmps5
    go_wp2
    go_ret
    exact ⟨rfl, Below.refl _ _⟩
end Go.Proofs.Ytnpnpafdklcjmaa
