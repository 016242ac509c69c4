/-
  Texts of walks and plain lemmas for this seat; no condition.
-/
import Derived.Test.YtjpndimhegfbnaaGreatDoorGK
namespace Go.Proofs.YtjpndimhegfbnaaGreatDoor
open Go.RowKit

set_option maxRecDepth 100000 in
set_option maxHeartbeats 6400000 in
theorem law_FnExactDeskValid (a b c d : Value) (D : Dsk) (w : World) (hx : DeskAt 0 w.heap.size w a b c d D) (hE : EnvK w) :
    Calls Tryz.prog 10 #[aggD a b c d] w fun e w' => e = .returned (.bool true) ∧ Below w.heap.size w w' := by
  obtain ⟨w0, hw0⟩ : ∃ w0, w0 = w.alloc (.cells #[a, b, c, d] 59) := ⟨_, rfl⟩
  have hb0 : Below w.heap.size w w0 := by rw [hw0]; exact (Below.refl _ _).alloc (Nat.le_refl _) _
  have hs0 : w0.heap.size = w.heap.size + 1 := by rw [hw0]; simp
  have K0 := Lib.hid (show Blk w.heap.size (.cells #[a, b, c, d] 59) w0 by rw [hw0]; exact Blk.new w _)
  have HX := Lib.hid (hx.below hb0 (Nat.le_refl _))
  have HB := Lib.hid hb0
  have HE := Lib.hid hE
  have HW0 := Lib.hid hw0
  clear hx hE hb0 hw0
  by_cases hm : D.size ≤ 1048576
  · obtain ⟨t, ht⟩ : ∃ t, deskV D = t := ⟨_, rfl⟩
    have HT := Lib.hid ht
    have htt : (t != t) = false := by simp
    have hlz : ¬ (1048576 : Int) - (D.size : Int) < 0 := by omega
    clear ht
    go_enter Tryz.func10, Tryz.ntmps10
    have c_K0_0 := K0.out.cell 0
    have c_K0_1 := K0.out.cell 1
    have c_K0_2 := K0.out.cell 2
    have c_K0_3 := K0.out.cell 3
    go_wp2_with (rw [← HW0.out])
    clear c_K0_0 c_K0_1 c_K0_2 c_K0_3
    refine (szDesk_any _ _ a b c d D (1048576 - D.size) _ HX.out (by omega) (fun _ => rfl)).mono ?_
    rintro e w1 ⟨rfl, h_⟩
    have hs1 := h_.size
    replace HX := Lib.hid (HX.out.below h_ (by omega)); replace K0 := Lib.hid (K0.out.below h_ (by omega))
    replace HB := Lib.hid (HB.out.trans (h_.mono (by omega)))
    clear h_
    have c_K0_0 := K0.out.cell 0
    have c_K0_1 := K0.out.cell 1
    have c_K0_2 := K0.out.cell 2
    have c_K0_3 := K0.out.cell 3
    go_wp2_with fail
    clear c_K0_0 c_K0_1 c_K0_2 c_K0_3
    refine (toDesk_any _ _ a b c d D _ HX.out (by omega) hm).mono ?_
    rintro e w2 ⟨s0, s1, s2, s3, rfl, h_, o_⟩
    have hs2 := h_.size
    replace HX := Lib.hid (HX.out.below h_ (by omega)); replace K0 := Lib.hid (K0.out.below h_ (by omega))
    replace HB := Lib.hid (HB.out.trans (h_.mono (by omega)))
    have O1 := Lib.hid (o_)
    clear o_
    clear h_
    go_wp2_with fail
    refine (spec_DeskValid _ _ _ _ _ _ D _ O1.out.at (by omega) hm).mono ?_
    rintro e w3 ⟨rfl, h_⟩
    have hs3 := h_.size
    replace HX := Lib.hid (HX.out.below h_ (by omega)); replace K0 := Lib.hid (K0.out.below h_ (by omega))
    replace HB := Lib.hid (HB.out.trans (h_.mono (by omega)))
    rw [HT.out]
    clear h_
    clear O1
    have c_K0_0 := K0.out.cell 0
    have c_K0_1 := K0.out.cell 1
    have c_K0_2 := K0.out.cell 2
    have c_K0_3 := K0.out.cell 3
    go_wp2_with fail
    clear c_K0_0 c_K0_1 c_K0_2 c_K0_3
    refine (toDesk_any _ _ a b c d D _ HX.out (by omega) hm).mono ?_
    rintro e w4 ⟨x0, x1, x2, x3, rfl, h_, o_⟩
    have hs4 := h_.size
    replace HX := Lib.hid (HX.out.below h_ (by omega)); replace K0 := Lib.hid (K0.out.below h_ (by omega))
    replace HB := Lib.hid (HB.out.trans (h_.mono (by omega)))
    have O2 := Lib.hid (o_)
    clear o_
    clear h_
    obtain ⟨x0, y0, x1, y1, x2, y2, x3, y3, rfl, rfl, rfl, rfl, _⟩ := O2.out.at.shapes
    obtain ⟨gx, hgx⟩ : ∃ gx, gx = w4.heap.size := ⟨_, rfl⟩
    have hgxl : w4.heap.size ≤ gx := by omega
    go_wp2_with fail
    obtain ⟨w5, hw_⟩ : ∃ w_, w_ = w4.alloc (.cells #[(.slice x0 D.first.length y0), (.slice x1 D.goal.length y1), (.slice x2 D.made.length y2), (.slice x3 D.now.length y3)] 35) := ⟨_, rfl⟩
    obtain ⟨h_, K_, hs5⟩ := box_facts hw_
    simp only [← hw_]
    clear hw_
    replace HX := Lib.hid (HX.out.below h_ (by omega)); replace K0 := Lib.hid (K0.out.below h_ (by omega)); replace O2 := Lib.hid (O2.out.below h_ (by omega))
    replace HB := Lib.hid (HB.out.trans (h_.mono (by omega)))
    have KX := Lib.hid K_
    clear h_ K_
    rw [← hgx] at KX
    have hgxu : gx < w5.heap.size := by omega
    have HGX := Lib.hid hgx
    simp only [← HGX.out]
    clear hgx
    have c_KX_0 := KX.out.cell 0
    have c_KX_1 := KX.out.cell 1
    have c_KX_2 := KX.out.cell 2
    have c_KX_3 := KX.out.cell 3
    skip
    clear c_KX_0 c_KX_1 c_KX_2 c_KX_3
    refine (impl_DeskValid _ _ _ _ _ _ D _ (HE.out.below HB.out) O2.out.at (by omega) hm).mono ?_
    rintro e w6 ⟨rfl, h_⟩
    have hs6 := h_.size
    replace HX := Lib.hid (HX.out.below h_ (by omega)); replace K0 := Lib.hid (K0.out.below h_ (by omega)); replace O2 := Lib.hid (O2.out.below h_ (by omega)); replace KX := Lib.hid (KX.out.below h_ (by omega))
    replace HB := Lib.hid (HB.out.trans (h_.mono (by omega)))
    rw [HT.out]
    clear h_
    go_wp2_with fail
    have hd_ : Below w6.heap.size w6 w6.drew := Below.drew (Below.refl _ _)
    have hdz_ : w6.drew.heap.size = w6.heap.size := rfl
    have hS_ : w6.drew.cell? ⟨w.heap.size, 0, none⟩ = some a ∧ w6.drew.cell? ⟨w.heap.size, 1, none⟩ = some b ∧ w6.drew.cell? ⟨w.heap.size, 2, none⟩ = some c ∧ w6.drew.cell? ⟨w.heap.size, 3, none⟩ = some d ∧ w6.drew.cell? ⟨gx, 0, none⟩ = some (.slice x0 D.first.length y0) ∧ w6.drew.cell? ⟨gx, 1, none⟩ = some (.slice x1 D.goal.length y1) ∧ w6.drew.cell? ⟨gx, 2, none⟩ = some (.slice x2 D.made.length y2) ∧ w6.drew.cell? ⟨gx, 3, none⟩ = some (.slice x3 D.now.length y3) := ⟨K0.out.cell 0, K0.out.cell 1, K0.out.cell 2, K0.out.cell 3, KX.out.cell 0, KX.out.cell 1, KX.out.cell 2, KX.out.cell 3⟩
    have HXd := Lib.hid (HX.out.below hd_ (by omega))
    go_region_held3 (fun w' => w'.cell? ⟨w.heap.size, 0, none⟩ = some a ∧ w'.cell? ⟨w.heap.size, 1, none⟩ = some b ∧ w'.cell? ⟨w.heap.size, 2, none⟩ = some c ∧ w'.cell? ⟨w.heap.size, 3, none⟩ = some d ∧ w'.cell? ⟨gx, 0, none⟩ = some (.slice x0 D.first.length y0) ∧ w'.cell? ⟨gx, 1, none⟩ = some (.slice x1 D.goal.length y1) ∧ w'.cell? ⟨gx, 2, none⟩ = some (.slice x2 D.made.length y2) ∧ w'.cell? ⟨gx, 3, none⟩ = some (.slice x3 D.now.length y3)) (first | assumption | go_keep) (first
      | (go_at_call 51; refine (toDesk_any _ _ a b c d D _ HXd.out (by omega) hm).mono ?_; rintro e5_ w7 ⟨r0_, r1_, r2_, r3_, rfl, hb_, o_⟩; (have hz_ := hb_.size); (have HBa := Lib.hid (hd_.trans (hb_.mono (by omega)))); (have K0a := Lib.hid (K0.out.below HBa.out (by omega))); (have KXa := Lib.hid (KX.out.below HBa.out (by omega))); (have OXa := Lib.hid (O2.out.below HBa.out (by omega))); (have ORa := Lib.hid o_); (have hSa_ : w7.cell? ⟨w.heap.size, 0, none⟩ = some a ∧ w7.cell? ⟨w.heap.size, 1, none⟩ = some b ∧ w7.cell? ⟨w.heap.size, 2, none⟩ = some c ∧ w7.cell? ⟨w.heap.size, 3, none⟩ = some d ∧ w7.cell? ⟨gx, 0, none⟩ = some (.slice x0 D.first.length y0) ∧ w7.cell? ⟨gx, 1, none⟩ = some (.slice x1 D.goal.length y1) ∧ w7.cell? ⟨gx, 2, none⟩ = some (.slice x2 D.made.length y2) ∧ w7.cell? ⟨gx, 3, none⟩ = some (.slice x3 D.now.length y3) := ⟨K0a.out.cell 0, K0a.out.cell 1, K0a.out.cell 2, K0a.out.cell 3, KXa.out.cell 0, KXa.out.cell 1, KXa.out.cell 2, KXa.out.cell 3⟩); clear hb_ o_)
      | (go_at_call 52; refine (eqDesk_same _ _ _ _ _ _ _ _ _ _ _ _ D _ OXa.out.at ORa.out.at (by omega) (by omega) hm).mono ?_; rintro e6_ w8 ⟨rfl, hb_⟩; (have hz2_ := hb_.size); (have HBb := Lib.hid (HBa.out.trans (hb_.mono (by omega)))); (have hSb_ : w8.cell? ⟨w.heap.size, 0, none⟩ = some a ∧ w8.cell? ⟨w.heap.size, 1, none⟩ = some b ∧ w8.cell? ⟨w.heap.size, 2, none⟩ = some c ∧ w8.cell? ⟨w.heap.size, 3, none⟩ = some d ∧ w8.cell? ⟨gx, 0, none⟩ = some (.slice x0 D.first.length y0) ∧ w8.cell? ⟨gx, 1, none⟩ = some (.slice x1 D.goal.length y1) ∧ w8.cell? ⟨gx, 2, none⟩ = some (.slice x2 D.made.length y2) ∧ w8.cell? ⟨gx, 3, none⟩ = some (.slice x3 D.now.length y3) := ⟨(K0a.out.below hb_ (by omega)).cell 0, (K0a.out.below hb_ (by omega)).cell 1, (K0a.out.below hb_ (by omega)).cell 2, (K0a.out.below hb_ (by omega)).cell 3, (KXa.out.below hb_ (by omega)).cell 0, (KXa.out.below hb_ (by omega)).cell 1, (KXa.out.below hb_ (by omega)).cell 2, (KXa.out.below hb_ (by omega)).cell 3⟩); clear hb_))
    all_goals (
      go_wp2
      go_ret
      exact ⟨rfl, HB.out.trans (HBb.out.mono (by omega))⟩)
  · have k0 := K0.out.cell 0
    have k1 := K0.out.cell 1
    have k2 := K0.out.cell 2
    have k3 := K0.out.cell 3
    go_enter Tryz.func10, Tryz.ntmps10
    go_wp2_with (rw [← HW0.out])
    refine (szDesk_any _ _ a b c d D (-1) _ HX.out (fun _ => rfl) (by omega)).mono ?_
    rintro e_ w_ ⟨rfl, h_⟩
    go_wp2
    go_ret
    exact ⟨rfl, HB.out.trans (h_.mono (by omega))⟩
end Go.Proofs.YtjpndimhegfbnaaGreatDoor
