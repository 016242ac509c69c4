/-
  Texts of walks and plain lemmas for this seat; no condition.
-/
import Derived.Test.YtjpndimhegfbnaaGreatDoorSDesk2
import Derived.Test.YtjpndimhegfbnaaGreatDoorRunP
import Derived.Test.YtjpndimhegfbnaaGreatDoorGK
import Derived.Test.YtjpndimhegfbnaaGreatDoorGG
import Derived.Test.YtjpndimhegfbnaaGreatDoorAct2
import Derived.Deep.RegionHeldLaw
import Derived.Deep.RegionHeld3
import Derived.Deep.RegionWith
import Derived.Deep.DeepCutAuto
namespace Go.Proofs.YtjpndimhegfbnaaGreatDoor
open Go.RowKit

theorem Dsk.count_nonneg (d : Dsk) (k : Int) (h : 0 ≤ k) : ¬ d.count k < 0 := by
  unfold Dsk.count
  omega
theorem deskDo_size (D : Dsk) (A : Ac) : (deskDo D A).1.size ≤ 180 := by
  cases h : deskV D
  · simp [deskDo, h, Dsk.none, Dsk.size]
  · exact deskV_size (deskDo_valid A h)

set_option maxRecDepth 100000 in
set_option maxHeartbeats 6400000 in
theorem law_FnExactDeskDo (a b c d : Value) (D : Dsk) (A : Ac) (w : World) (hx : DeskAt 0 w.heap.size w a b c d D) (hE : EnvK w) :
    Calls Tryz.prog 13 #[aggD a b c d, aggA A] w fun e w' => e = .returned (.bool true) ∧ Below w.heap.size w w' := by
  obtain ⟨w0, hw0⟩ : ∃ w0, w0 = (w.alloc (.cells #[a, b, c, d] 59)).alloc (.cells #[.int .i64 A.kind, .int .i64 A.step.which, .bool A.step.back, .int .i64 A.step.at_, .int .i64 A.count] 70) := ⟨_, rfl⟩
  have hb0 : Below w.heap.size w w0 := by rw [hw0]; exact ((Below.refl _ _).alloc (Nat.le_refl _) _).alloc (by simp) _
  have hs0 : w0.heap.size = w.heap.size + 2 := by rw [hw0]; simp
  have K0 : Hid (Blk w.heap.size (.cells #[a, b, c, d] 59) w0) := by
    rw [hw0]
    exact Lib.hid ((Blk.new w _).below ((Below.refl (w.alloc _).heap.size _).alloc (Nat.le_refl _) _) (by simp))
  have KA : Hid (Blk (w.heap.size + 1) (.cells #[.int .i64 A.kind, .int .i64 A.step.which, .bool A.step.back, .int .i64 A.step.at_, .int .i64 A.count] 70) w0) := by
    have h := Blk.new (w.alloc (.cells #[a, b, c, d] 59)) (.cells #[.int .i64 A.kind, .int .i64 A.step.which, .bool A.step.back, .int .i64 A.step.at_, .int .i64 A.count] 70)
    rw [alloc_size] at h
    rw [hw0]; exact Lib.hid h
  have HX := Lib.hid (hx.below hb0 (Nat.le_refl _))
  have HB := Lib.hid hb0
  have HE := Lib.hid hE
  have HW0 := Lib.hid hw0
  clear hx hE hb0 hw0
  by_cases hm : D.size ≤ 1048576
  · obtain ⟨R, t, hR⟩ : ∃ R t, deskDo D A = (R, t) := ⟨_, _, rfl⟩
    have HR := Lib.hid hR
    have hRs : R.size ≤ 1048576 := by
      have h := deskDo_size D A
      rw [hR] at h
      exact Nat.le_trans h (by omega)
    have htt : (t != t) = false := by simp
    have hlz : ¬ (1048576 : Int) - (D.size : Int) < 0 := by omega
    have hneg : ¬ R.count 1 < 0 := Dsk.count_nonneg R 1 (by omega)
    have hnegD : ¬ D.count 1 < 0 := Dsk.count_nonneg D 1 (by omega)
    have hcnt : (R.count 1 != R.count 1) = false := by simp
    clear hR
    go_enter Tryz.func13, Tryz.ntmps13
    have c_K0_0 := K0.out.cell 0
    have c_K0_1 := K0.out.cell 1
    have c_K0_2 := K0.out.cell 2
    have c_K0_3 := K0.out.cell 3
    go_wp2_with (rw [← HW0.out])
    clear c_K0_0 c_K0_1 c_K0_2 c_K0_3
    refine (szDesk_any _ _ a b c d D (1048576 - D.size) _ HX.out (by omega) (fun _ => rfl)).mono ?_
    rintro e w1 ⟨rfl, h_⟩
    have hs1 := h_.size
    replace HX := Lib.hid (HX.out.below h_ (by omega)); replace K0 := Lib.hid (K0.out.below h_ (by omega)); replace KA := Lib.hid (KA.out.below h_ (by omega))
    replace HB := Lib.hid (HB.out.trans (h_.mono (by omega)))
    clear h_
    go_upto_region 5 with fail
    go_cut [6, 7] (fun p_ q_ wx => ∃ (g_ : Nat) (y0 y1 y2 y3 : Value) (l_ h_ : Nat), p_ = .pointer (some ⟨g_, 0, none⟩) ∧ q_ = .bool t ∧ Hid (Blk g_ (.cells #[y0, y1, y2, y3] 35) wx ∧ DeskOwn l_ h_ wx y0 y1 y2 y3 R ∧ h_ ≤ wx.heap.size ∧ w1.heap.size ≤ g_ ∧ w1.heap.size ≤ l_ ∧ (g_ < l_ ∨ h_ ≤ g_) ∧ Below w1.heap.size w1 wx))
    case first =>
      have hbA : Below w1.heap.size w1 w1.drew := Below.drew (Below.refl _ _)
      have hbB : Below w1.heap.size w1 (w1.alloc (.cells #[.slice none 0 0, .slice none 0 0, .slice none 0 0, .slice none 0 0] 35)).drew := Below.drew ((Below.refl _ _).alloc (Nat.le_refl _) _)
      have hdA : w1.drew.heap.size = w1.heap.size := rfl
      have hdB : (w1.alloc (.cells #[.slice none 0 0, .slice none 0 0, .slice none 0 0, .slice none 0 0] 35)).drew.heap.size = w1.heap.size + 1 := alloc_size _ _
      have KNB := Lib.hid (show Blk w1.heap.size (.cells #[.slice none 0 0, .slice none 0 0, .slice none 0 0, .slice none 0 0] 35) (w1.alloc (.cells #[.slice none 0 0, .slice none 0 0, .slice none 0 0, .slice none 0 0] 35)).drew from Blk.new w1 _)
      have hgs : ∀ w' : World, Below w1.heap.size w1 w' → w'.cell? ⟨w.heap.size, 0, none⟩ = some a ∧ w'.cell? ⟨w.heap.size, 1, none⟩ = some b ∧ w'.cell? ⟨w.heap.size, 2, none⟩ = some c ∧ w'.cell? ⟨w.heap.size, 3, none⟩ = some d ∧ w'.cell? ⟨w.heap.size + 1, 0, none⟩ = some (.int .i64 A.kind) ∧ w'.cell? ⟨w.heap.size + 1, 1, none⟩ = some (.int .i64 A.step.which) ∧ w'.cell? ⟨w.heap.size + 1, 2, none⟩ = some (.bool A.step.back) ∧ w'.cell? ⟨w.heap.size + 1, 3, none⟩ = some (.int .i64 A.step.at_) ∧ w'.cell? ⟨w.heap.size + 1, 4, none⟩ = some (.int .i64 A.count) := fun w' hb => ⟨(K0.out.below hb (by omega)).cell 0, (K0.out.below hb (by omega)).cell 1, (K0.out.below hb (by omega)).cell 2, (K0.out.below hb (by omega)).cell 3, (KA.out.below hb (by omega)).cell 0, (KA.out.below hb (by omega)).cell 1, (KA.out.below hb (by omega)).cell 2, (KA.out.below hb (by omega)).cell 3, (KA.out.below hb (by omega)).cell 4⟩
      have hS := hgs w1 (Below.refl _ _)
      have hSA := hgs _ hbA
      have hSB := hgs _ hbB
      have HGS := Lib.hid hgs
      clear hgs
      have HXA := Lib.hid (HX.out.below hbA (by omega))
      have HXB := Lib.hid (HX.out.below hbB (by omega))
      go_region_held3 (fun w' => w'.cell? ⟨w.heap.size, 0, none⟩ = some a ∧ w'.cell? ⟨w.heap.size, 1, none⟩ = some b ∧ w'.cell? ⟨w.heap.size, 2, none⟩ = some c ∧ w'.cell? ⟨w.heap.size, 3, none⟩ = some d ∧ w'.cell? ⟨w.heap.size + 1, 0, none⟩ = some (.int .i64 A.kind) ∧ w'.cell? ⟨w.heap.size + 1, 1, none⟩ = some (.int .i64 A.step.which) ∧ w'.cell? ⟨w.heap.size + 1, 2, none⟩ = some (.bool A.step.back) ∧ w'.cell? ⟨w.heap.size + 1, 3, none⟩ = some (.int .i64 A.step.at_) ∧ w'.cell? ⟨w.heap.size + 1, 4, none⟩ = some (.int .i64 A.count)) (first | with_reducible assumption | go_keep) (first
        | (go_at_call 51; refine (toDesk_any _ _ a b c d D w1.drew HXA.out (by omega) hm).mono ?_; rintro e1 w2 ⟨r0, r1, r2, r3, rfl, hb_, o_⟩; (have hs_w2 := hb_.size); (have hb1 := hbA.trans (hb_.mono (by omega))); (have hS1 := HGS.out _ hb1); (have hSN1 := HGS.out _ (hb1.alloc (by omega) (.cells #[.slice none 0 0, .slice none 0 0, .slice none 0 0, .slice none 0 0] 35))); (have hz_w2 : (w2.alloc (.cells #[.slice none 0 0, .slice none 0 0, .slice none 0 0, .slice none 0 0] 35)).heap.size = w2.heap.size + 1 := alloc_size _ _); (have O1 := Lib.hid o_);  clear hb_ o_)
        | (go_at_call 51; refine (toDesk_any _ _ a b c d D (w1.alloc (.cells #[.slice none 0 0, .slice none 0 0, .slice none 0 0, .slice none 0 0] 35)).drew HXB.out (by omega) hm).mono ?_; rintro e1 w2 ⟨r0, r1, r2, r3, rfl, hb_, o_⟩; (have hs_w2 := hb_.size); (have hb1 := hbB.trans (hb_.mono (by omega))); (have hS1 := HGS.out _ hb1); (have hSN1 := HGS.out _ (hb1.alloc (by omega) (.cells #[.slice none 0 0, .slice none 0 0, .slice none 0 0, .slice none 0 0] 35))); (have hz_w2 : (w2.alloc (.cells #[.slice none 0 0, .slice none 0 0, .slice none 0 0, .slice none 0 0] 35)).heap.size = w2.heap.size + 1 := alloc_size _ _); (have O1 := Lib.hid o_); (have KN := Lib.hid (KNB.out.below hb_ (by omega))); clear hb_ o_)
        | (go_at_call 58; refine (toAct_any A w2).mono ?_; rintro e2 w3 ⟨rfl, hb_⟩; (have hs_w3 := hb_.size); (have hb2 := hb1.trans (hb_.mono (by omega))); (have hS2 := HGS.out _ hb2); (have hSN2 := HGS.out _ (hb2.alloc (by omega) (.cells #[.slice none 0 0, .slice none 0 0, .slice none 0 0, .slice none 0 0] 35))); (have hz_w3 : (w3.alloc (.cells #[.slice none 0 0, .slice none 0 0, .slice none 0 0, .slice none 0 0] 35)).heap.size = w3.heap.size + 1 := alloc_size _ _); (replace O1 := Lib.hid (O1.out.below hb_ (by omega))); (try (replace KN := Lib.hid (KN.out.below hb_ (by omega)))); clear hb_)
        | (go_at_call 58; refine (toAct_any A (w2.alloc (.cells #[.slice none 0 0, .slice none 0 0, .slice none 0 0, .slice none 0 0] 35))).mono ?_; rintro e2 w3 ⟨rfl, hb_⟩; (have hs_w3 := hb_.size); (have hb2 := (hb1.alloc (by omega) _).trans (hb_.mono (by omega))); (have hS2 := HGS.out _ hb2); (have hSN2 := HGS.out _ (hb2.alloc (by omega) (.cells #[.slice none 0 0, .slice none 0 0, .slice none 0 0, .slice none 0 0] 35))); (have hz_w3 : (w3.alloc (.cells #[.slice none 0 0, .slice none 0 0, .slice none 0 0, .slice none 0 0] 35)).heap.size = w3.heap.size + 1 := alloc_size _ _); (replace O1 := Lib.hid ((O1.out.below ((Below.refl _ _).alloc (Nat.le_refl _) _) (by omega)).below hb_ (by omega))); (have KN := Lib.hid ((Blk.new w2 _).below hb_ (by omega))); clear hb_)
        | (go_at_call 57; refine (spec_DeskDo _ _ _ _ _ _ D A w3 O1.out.at (by omega) hm).mono ?_; rintro e3 w4 ⟨y0, y1, y2, y3, ok, rfl, o_, hok, hb_⟩; rw [HR.out] at o_ hok; obtain rfl : t = ok := hok.symm; obtain ⟨z0, z1, z2, z3, z4, z5, z6, z7, i0, i1, i2, i3⟩ := o_.open; subst i0 i1 i2 i3; (have hs_w4 := hb_.size); (have hb3 := hb2.trans (hb_.mono (by omega))); (have hS3 := HGS.out _ hb3); (have hSN3 := HGS.out _ (hb3.alloc (by omega) (.cells #[.slice none 0 0, .slice none 0 0, .slice none 0 0, .slice none 0 0] 35))); (have hSL := HGS.out _ (hb3.alloc (by omega) (.cells #[(.slice z0 R.first.length z1), (.slice z2 R.goal.length z3), (.slice z4 R.made.length z5), (.slice z6 R.now.length z7)] 35))); (have hS40 := HGS.out _ (Below.outside hb3 (Outside.set4 w1.heap.size w4 (.slice z0 R.first.length z1) (.slice z2 R.goal.length z3) (.slice z4 R.made.length z5) (.slice z6 R.now.length z7)) (by omega) (by omega))); (have hS41 := HGS.out _ (Below.outside hb3 (Outside.set4 w2.heap.size w4 (.slice z0 R.first.length z1) (.slice z2 R.goal.length z3) (.slice z4 R.made.length z5) (.slice z6 R.now.length z7)) (by omega) (by omega))); (have hS42 := HGS.out _ (Below.outside hb3 (Outside.set4 w3.heap.size w4 (.slice z0 R.first.length z1) (.slice z2 R.goal.length z3) (.slice z4 R.made.length z5) (.slice z6 R.now.length z7)) (by omega) (by omega))); (try (have kn := KN.out.below hb_ (by omega); have c0 := kn.cell 0; have c1 := kn.cell 1; have c2 := kn.cell 2; have c3 := kn.cell 3; have f0 := kn.free 0; have f1 := kn.free 1; have f2 := kn.free 2; have f3 := kn.free 3; have KM := Lib.hid kn; clear kn)); (have O3 := Lib.hid o_); clear hb_ o_ hok)
        | (go_at_call 57; refine (spec_DeskDo _ _ _ _ _ _ D A (w3.alloc (.cells #[.slice none 0 0, .slice none 0 0, .slice none 0 0, .slice none 0 0] 35)) (O1.out.below ((Below.refl _ _).alloc (Nat.le_refl _) _) (by omega)).at (by omega) hm).mono ?_; rintro e3 w4 ⟨y0, y1, y2, y3, ok, rfl, o_, hok, hb_⟩; rw [HR.out] at o_ hok; obtain rfl : t = ok := hok.symm; obtain ⟨z0, z1, z2, z3, z4, z5, z6, z7, i0, i1, i2, i3⟩ := o_.open; subst i0 i1 i2 i3; (have hs_w4 := hb_.size); (have hb3 := (hb2.alloc (by omega) _).trans (hb_.mono (by omega))); (have hS3 := HGS.out _ hb3); (have hSN3 := HGS.out _ (hb3.alloc (by omega) (.cells #[.slice none 0 0, .slice none 0 0, .slice none 0 0, .slice none 0 0] 35))); (have hSL := HGS.out _ (hb3.alloc (by omega) (.cells #[(.slice z0 R.first.length z1), (.slice z2 R.goal.length z3), (.slice z4 R.made.length z5), (.slice z6 R.now.length z7)] 35))); (have hS40 := HGS.out _ (Below.outside hb3 (Outside.set4 w1.heap.size w4 (.slice z0 R.first.length z1) (.slice z2 R.goal.length z3) (.slice z4 R.made.length z5) (.slice z6 R.now.length z7)) (by omega) (by omega))); (have hS41 := HGS.out _ (Below.outside hb3 (Outside.set4 w2.heap.size w4 (.slice z0 R.first.length z1) (.slice z2 R.goal.length z3) (.slice z4 R.made.length z5) (.slice z6 R.now.length z7)) (by omega) (by omega))); (have hS42 := HGS.out _ (Below.outside hb3 (Outside.set4 w3.heap.size w4 (.slice z0 R.first.length z1) (.slice z2 R.goal.length z3) (.slice z4 R.made.length z5) (.slice z6 R.now.length z7)) (by omega) (by omega))); (have kn := (Blk.new w3 (.cells #[.slice none 0 0, .slice none 0 0, .slice none 0 0, .slice none 0 0] 35)).below hb_ (by omega)); (have c0 := kn.cell 0; have c1 := kn.cell 1; have c2 := kn.cell 2; have c3 := kn.cell 3; have f0 := kn.free 0; have f1 := kn.free 1; have f2 := kn.free 2; have f3 := kn.free 3; have KM := Lib.hid kn; clear kn); (have O3 := Lib.hid o_); clear hb_ o_ hok))
      all_goals (
        go_wp2_with fail
        go_meet
        first
          | exact ⟨_, _, _, _, _, _, _, rfl, rfl, Lib.hid ⟨Blk.new w4 _, O3.out.below ((Below.refl _ _).alloc (Nat.le_refl _) _) (by omega), by simp only [alloc_size]; omega, by omega, by omega, by omega, hb3.alloc (by omega) _⟩⟩
          | exact ⟨_, _, _, _, _, _, _, rfl, rfl, Lib.hid ⟨KM.out.set4 _ _ _ _, O3.out.outside (Outside.set4 _ _ _ _ _ _) (.inr (by omega)), by have hz0_ := (Outside.set4 w1.heap.size w4 (.slice z0 R.first.length z1) (.slice z2 R.goal.length z3) (.slice z4 R.made.length z5) (.slice z6 R.now.length z7)).size; have hz1_ := (Outside.set4 w2.heap.size w4 (.slice z0 R.first.length z1) (.slice z2 R.goal.length z3) (.slice z4 R.made.length z5) (.slice z6 R.now.length z7)).size; have hz2_ := (Outside.set4 w3.heap.size w4 (.slice z0 R.first.length z1) (.slice z2 R.goal.length z3) (.slice z4 R.made.length z5) (.slice z6 R.now.length z7)).size; omega, by omega, by omega, by omega, Below.outside hb3 (Outside.set4 _ _ _ _ _ _) (by omega) (by omega)⟩⟩)
    case rest =>
      obtain ⟨gs, p_0, p_1, p_2, p_3, l1_, u1_, rfl, rfl, HQ⟩ := hcut
      obtain ⟨w5, rfl⟩ : ∃ x_, x_ = wc := ⟨_, rfl⟩
      have KS := Lib.hid HQ.out.1
      have OS := Lib.hid HQ.out.2.1
      obtain ⟨hq1_1, hq2_1, hq3_1, hq4_1, h_⟩ := HQ.out.2.2
      have hgu_gs := KS.out.lt
      clear HQ
      have hs5 := h_.size
      replace HX := Lib.hid (HX.out.below h_ (by omega)); replace K0 := Lib.hid (K0.out.below h_ (by omega)); replace KA := Lib.hid (KA.out.below h_ (by omega))
      replace HB := Lib.hid (HB.out.trans (h_.mono (by omega)))
      clear h_
      obtain ⟨p0, p1, p2, p3, p4, p5, p6, p7, rfl, rfl, rfl, rfl, _⟩ := OS.out.at.shapes
      have c_K0_0 := K0.out.cell 0
      have c_K0_1 := K0.out.cell 1
      have c_K0_2 := K0.out.cell 2
      have c_K0_3 := K0.out.cell 3
      go_wp2_with fail
      clear c_K0_0 c_K0_1 c_K0_2 c_K0_3
      refine (toDesk_any _ _ a b c d D _ HX.out (by omega) hm).mono ?_
      rintro e w6 ⟨x_0, x_1, x_2, x_3, rfl, h_, o_⟩
      have hs6 := h_.size
      replace HX := Lib.hid (HX.out.below h_ (by omega)); replace K0 := Lib.hid (K0.out.below h_ (by omega)); replace KA := Lib.hid (KA.out.below h_ (by omega)); replace KS := Lib.hid (KS.out.below h_ (by omega)); replace OS := Lib.hid (OS.out.below h_ (by omega))
      replace HB := Lib.hid (HB.out.trans (h_.mono (by omega)))
      have O2 := Lib.hid (o_)
      clear o_
      clear h_
      obtain ⟨x0, x1, x2, x3, x4, x5, x6, x7, rfl, rfl, rfl, rfl, _⟩ := O2.out.at.shapes
      obtain ⟨gx, hg_gx⟩ : ∃ g_, g_ = w6.heap.size := ⟨_, rfl⟩
      have hgl_gx : w6.heap.size ≤ gx := by omega
      have hlt_K0 : w.heap.size < w6.heap.size := by omega
      have c_K0_0 := K0.out.cell 0
      have c_K0_1 := K0.out.cell 1
      have c_K0_2 := K0.out.cell 2
      have c_K0_3 := K0.out.cell 3
      go_wp2_with fail
      obtain ⟨w7, hw_⟩ : ∃ w_, w_ = w6.alloc (.cells #[(.slice x0 D.first.length x1), (.slice x2 D.goal.length x3), (.slice x4 D.made.length x5), (.slice x6 D.now.length x7)] 35) := ⟨_, rfl⟩
      obtain ⟨h_, K_, hs7⟩ := box_facts hw_
      simp only [← hw_]
      clear hw_
      replace HX := Lib.hid (HX.out.below h_ (by omega)); replace K0 := Lib.hid (K0.out.below h_ (by omega)); replace KA := Lib.hid (KA.out.below h_ (by omega)); replace KS := Lib.hid (KS.out.below h_ (by omega)); replace OS := Lib.hid (OS.out.below h_ (by omega)); replace O2 := Lib.hid (O2.out.below h_ (by omega))
      replace HB := Lib.hid (HB.out.trans (h_.mono (by omega)))
      have KX := Lib.hid K_
      clear h_ K_
      clear c_K0_0 c_K0_1 c_K0_2 c_K0_3
      rw [← hg_gx] at KX
      have hgu_gx : gx < w7.heap.size := by omega
      have HG_gx := Lib.hid hg_gx
      simp only [← HG_gx.out]
      clear hg_gx
      go_upto_region 7 with fail
      go_cut [9, 10] (fun p_ q_ wx => ∃ (g_ : Nat) (y0 y1 y2 y3 : Value) (l_ h_ : Nat), p_ = .pointer (some ⟨g_, 0, none⟩) ∧ q_ = .bool t ∧ Hid (Blk g_ (.cells #[y0, y1, y2, y3] 35) wx ∧ DeskOwn l_ h_ wx y0 y1 y2 y3 R ∧ h_ ≤ wx.heap.size ∧ w7.heap.size ≤ g_ ∧ w7.heap.size ≤ l_ ∧ (g_ < l_ ∨ h_ ≤ g_) ∧ Below w7.heap.size w7 wx))
      case first =>
        have hbA : Below w7.heap.size w7 w7.drew := Below.drew (Below.refl _ _)
        have hbB : Below w7.heap.size w7 (w7.alloc (.cells #[.slice none 0 0, .slice none 0 0, .slice none 0 0, .slice none 0 0] 35)).drew := Below.drew ((Below.refl _ _).alloc (Nat.le_refl _) _)
        have hdA : w7.drew.heap.size = w7.heap.size := rfl
        have hdB : (w7.alloc (.cells #[.slice none 0 0, .slice none 0 0, .slice none 0 0, .slice none 0 0] 35)).drew.heap.size = w7.heap.size + 1 := alloc_size _ _
        have KNB := Lib.hid (show Blk w7.heap.size (.cells #[.slice none 0 0, .slice none 0 0, .slice none 0 0, .slice none 0 0] 35) (w7.alloc (.cells #[.slice none 0 0, .slice none 0 0, .slice none 0 0, .slice none 0 0] 35)).drew from Blk.new w7 _)
        have hgs : ∀ w' : World, Below w7.heap.size w7 w' → w'.cell? ⟨gx, 0, none⟩ = some (.slice x0 D.first.length x1) ∧ w'.cell? ⟨gx, 1, none⟩ = some (.slice x2 D.goal.length x3) ∧ w'.cell? ⟨gx, 2, none⟩ = some (.slice x4 D.made.length x5) ∧ w'.cell? ⟨gx, 3, none⟩ = some (.slice x6 D.now.length x7) ∧ w'.cell? ⟨w.heap.size + 1, 0, none⟩ = some (.int .i64 A.kind) ∧ w'.cell? ⟨w.heap.size + 1, 1, none⟩ = some (.int .i64 A.step.which) ∧ w'.cell? ⟨w.heap.size + 1, 2, none⟩ = some (.bool A.step.back) ∧ w'.cell? ⟨w.heap.size + 1, 3, none⟩ = some (.int .i64 A.step.at_) ∧ w'.cell? ⟨w.heap.size + 1, 4, none⟩ = some (.int .i64 A.count) := fun w' hb => ⟨(KX.out.below hb (by omega)).cell 0, (KX.out.below hb (by omega)).cell 1, (KX.out.below hb (by omega)).cell 2, (KX.out.below hb (by omega)).cell 3, (KA.out.below hb (by omega)).cell 0, (KA.out.below hb (by omega)).cell 1, (KA.out.below hb (by omega)).cell 2, (KA.out.below hb (by omega)).cell 3, (KA.out.below hb (by omega)).cell 4⟩
        have hS := hgs w7 (Below.refl _ _)
        have hSA := hgs _ hbA
        have hSB := hgs _ hbB
        have HGS := Lib.hid hgs
        clear hgs
        have HXA := Lib.hid (O2.out.below hbA (by omega))
        have HXB := Lib.hid (O2.out.below hbB (by omega))
        go_region_held3 (fun w' => w'.cell? ⟨gx, 0, none⟩ = some (.slice x0 D.first.length x1) ∧ w'.cell? ⟨gx, 1, none⟩ = some (.slice x2 D.goal.length x3) ∧ w'.cell? ⟨gx, 2, none⟩ = some (.slice x4 D.made.length x5) ∧ w'.cell? ⟨gx, 3, none⟩ = some (.slice x6 D.now.length x7) ∧ w'.cell? ⟨w.heap.size + 1, 0, none⟩ = some (.int .i64 A.kind) ∧ w'.cell? ⟨w.heap.size + 1, 1, none⟩ = some (.int .i64 A.step.which) ∧ w'.cell? ⟨w.heap.size + 1, 2, none⟩ = some (.bool A.step.back) ∧ w'.cell? ⟨w.heap.size + 1, 3, none⟩ = some (.int .i64 A.step.at_) ∧ w'.cell? ⟨w.heap.size + 1, 4, none⟩ = some (.int .i64 A.count)) (first | with_reducible assumption | go_keep) (first
          | (go_at_call 58; refine (toAct_any A w7.drew).mono ?_; rintro e2 w9 ⟨rfl, hb_⟩; (have hs_w9 := hb_.size); (have hb2 := hbA.trans (hb_.mono (by omega))); (have hS2 := HGS.out _ hb2); (have hSN2 := HGS.out _ (hb2.alloc (by omega) (.cells #[.slice none 0 0, .slice none 0 0, .slice none 0 0, .slice none 0 0] 35))); (have hz_w9 : (w9.alloc (.cells #[.slice none 0 0, .slice none 0 0, .slice none 0 0, .slice none 0 0] 35)).heap.size = w9.heap.size + 1 := alloc_size _ _); clear hb_)
          | (go_at_call 58; refine (toAct_any A (w7.alloc (.cells #[.slice none 0 0, .slice none 0 0, .slice none 0 0, .slice none 0 0] 35)).drew).mono ?_; rintro e2 w9 ⟨rfl, hb_⟩; (have hs_w9 := hb_.size); (have hb2 := hbB.trans (hb_.mono (by omega))); (have hS2 := HGS.out _ hb2); (have hSN2 := HGS.out _ (hb2.alloc (by omega) (.cells #[.slice none 0 0, .slice none 0 0, .slice none 0 0, .slice none 0 0] 35))); (have hz_w9 : (w9.alloc (.cells #[.slice none 0 0, .slice none 0 0, .slice none 0 0, .slice none 0 0] 35)).heap.size = w9.heap.size + 1 := alloc_size _ _); (have KN := Lib.hid (KNB.out.below hb_ (by omega))); clear hb_)
          | (go_at_call 59; refine (impl_DeskDo _ _ _ _ _ _ D A w9 (HE.out.below (HB.out.trans (hb2.mono (by omega)))) (O2.out.below hb2 (by omega)).at (by omega) hm).mono ?_; rintro e3 w10 ⟨y0, y1, y2, y3, ok, rfl, o_, hok, hb_⟩; rw [HR.out] at o_ hok; obtain rfl : t = ok := hok.symm; obtain ⟨z0, z1, z2, z3, z4, z5, z6, z7, i0, i1, i2, i3⟩ := o_.open; subst i0 i1 i2 i3; (have hs_w10 := hb_.size); (have hb3 := hb2.trans (hb_.mono (by omega))); (have hS3 := HGS.out _ hb3); (have hSN3 := HGS.out _ (hb3.alloc (by omega) (.cells #[.slice none 0 0, .slice none 0 0, .slice none 0 0, .slice none 0 0] 35))); (have hSL := HGS.out _ (hb3.alloc (by omega) (.cells #[(.slice z0 R.first.length z1), (.slice z2 R.goal.length z3), (.slice z4 R.made.length z5), (.slice z6 R.now.length z7)] 35))); (have hS40 := HGS.out _ (Below.outside hb3 (Outside.set4 w7.heap.size w10 (.slice z0 R.first.length z1) (.slice z2 R.goal.length z3) (.slice z4 R.made.length z5) (.slice z6 R.now.length z7)) (by omega) (by omega))); (have hS41 := HGS.out _ (Below.outside hb3 (Outside.set4 w9.heap.size w10 (.slice z0 R.first.length z1) (.slice z2 R.goal.length z3) (.slice z4 R.made.length z5) (.slice z6 R.now.length z7)) (by omega) (by omega))); (try (have kn := KN.out.below hb_ (by omega); have c0 := kn.cell 0; have c1 := kn.cell 1; have c2 := kn.cell 2; have c3 := kn.cell 3; have f0 := kn.free 0; have f1 := kn.free 1; have f2 := kn.free 2; have f3 := kn.free 3; have KM := Lib.hid kn; clear kn)); (have O3 := Lib.hid o_); clear hb_ o_ hok)
          | (go_at_call 59; refine (impl_DeskDo _ _ _ _ _ _ D A (w9.alloc (.cells #[.slice none 0 0, .slice none 0 0, .slice none 0 0, .slice none 0 0] 35)) (HE.out.below (HB.out.trans ((hb2.alloc (by omega) _).mono (by omega)))) ((O2.out.below hb2 (by omega)).below ((Below.refl _ _).alloc (Nat.le_refl _) _) (by omega)).at (by omega) hm).mono ?_; rintro e3 w10 ⟨y0, y1, y2, y3, ok, rfl, o_, hok, hb_⟩; rw [HR.out] at o_ hok; obtain rfl : t = ok := hok.symm; obtain ⟨z0, z1, z2, z3, z4, z5, z6, z7, i0, i1, i2, i3⟩ := o_.open; subst i0 i1 i2 i3; (have hs_w10 := hb_.size); (have hb3 := (hb2.alloc (by omega) _).trans (hb_.mono (by omega))); (have hS3 := HGS.out _ hb3); (have hSN3 := HGS.out _ (hb3.alloc (by omega) (.cells #[.slice none 0 0, .slice none 0 0, .slice none 0 0, .slice none 0 0] 35))); (have hSL := HGS.out _ (hb3.alloc (by omega) (.cells #[(.slice z0 R.first.length z1), (.slice z2 R.goal.length z3), (.slice z4 R.made.length z5), (.slice z6 R.now.length z7)] 35))); (have hS40 := HGS.out _ (Below.outside hb3 (Outside.set4 w7.heap.size w10 (.slice z0 R.first.length z1) (.slice z2 R.goal.length z3) (.slice z4 R.made.length z5) (.slice z6 R.now.length z7)) (by omega) (by omega))); (have hS41 := HGS.out _ (Below.outside hb3 (Outside.set4 w9.heap.size w10 (.slice z0 R.first.length z1) (.slice z2 R.goal.length z3) (.slice z4 R.made.length z5) (.slice z6 R.now.length z7)) (by omega) (by omega))); (have kn := (Blk.new w9 (.cells #[.slice none 0 0, .slice none 0 0, .slice none 0 0, .slice none 0 0] 35)).below hb_ (by omega)); (have c0 := kn.cell 0; have c1 := kn.cell 1; have c2 := kn.cell 2; have c3 := kn.cell 3; have f0 := kn.free 0; have f1 := kn.free 1; have f2 := kn.free 2; have f3 := kn.free 3; have KM := Lib.hid kn; clear kn); (have O3 := Lib.hid o_); clear hb_ o_ hok))
        all_goals (
          go_wp2_with fail
          go_meet
          first
            | exact ⟨_, _, _, _, _, _, _, rfl, rfl, Lib.hid ⟨Blk.new w10 _, O3.out.below ((Below.refl _ _).alloc (Nat.le_refl _) _) (by omega), by simp only [alloc_size]; omega, by omega, by omega, by omega, hb3.alloc (by omega) _⟩⟩
            | exact ⟨_, _, _, _, _, _, _, rfl, rfl, Lib.hid ⟨KM.out.set4 _ _ _ _, O3.out.outside (Outside.set4 _ _ _ _ _ _) (.inr (by omega)), by have hz0_ := (Outside.set4 w7.heap.size w10 (.slice z0 R.first.length z1) (.slice z2 R.goal.length z3) (.slice z4 R.made.length z5) (.slice z6 R.now.length z7)).size; have hz1_ := (Outside.set4 w9.heap.size w10 (.slice z0 R.first.length z1) (.slice z2 R.goal.length z3) (.slice z4 R.made.length z5) (.slice z6 R.now.length z7)).size; omega, by omega, by omega, by omega, Below.outside hb3 (Outside.set4 _ _ _ _ _ _) (by omega) (by omega)⟩⟩)
      case rest =>
        obtain ⟨gg, y_0, y_1, y_2, y_3, l7_, u7_, rfl, rfl, HQ⟩ := hcut
        obtain ⟨w11, rfl⟩ : ∃ x_, x_ = wc := ⟨_, rfl⟩
        have KG := Lib.hid HQ.out.1
        have OG := Lib.hid HQ.out.2.1
        obtain ⟨hq1_7, hq2_7, hq3_7, hq4_7, h_⟩ := HQ.out.2.2
        have hgu_gg := KG.out.lt
        clear HQ
        have hs11 := h_.size
        replace HX := Lib.hid (HX.out.below h_ (by omega)); replace K0 := Lib.hid (K0.out.below h_ (by omega)); replace KA := Lib.hid (KA.out.below h_ (by omega)); replace KS := Lib.hid (KS.out.below h_ (by omega)); replace OS := Lib.hid (OS.out.below h_ (by omega)); replace O2 := Lib.hid (O2.out.below h_ (by omega)); replace KX := Lib.hid (KX.out.below h_ (by omega))
        replace HB := Lib.hid (HB.out.trans (h_.mono (by omega)))
        clear h_
        obtain ⟨y0, y1, y2, y3, y4, y5, y6, y7, rfl, rfl, rfl, rfl, _⟩ := OG.out.at.shapes
        have c_KG_0 := KG.out.cell 0
        have c_KG_1 := KG.out.cell 1
        have c_KG_2 := KG.out.cell 2
        have c_KG_3 := KG.out.cell 3
        have c_KS_0 := KS.out.cell 0
        have c_KS_1 := KS.out.cell 1
        have c_KS_2 := KS.out.cell 2
        have c_KS_3 := KS.out.cell 3
        go_wp2_with fail
        clear c_KG_0 c_KG_1 c_KG_2 c_KG_3 c_KS_0 c_KS_1 c_KS_2 c_KS_3
        refine (eqDesk_same _ _ _ _ _ _ _ _ _ _ _ _ R _ OG.out.at OS.out.at (by omega) (by omega) hRs).mono ?_
        rintro e w12 ⟨rfl, h_⟩
        have hs12 := h_.size
        replace HX := Lib.hid (HX.out.below h_ (by omega)); replace K0 := Lib.hid (K0.out.below h_ (by omega)); replace KA := Lib.hid (KA.out.below h_ (by omega)); replace KS := Lib.hid (KS.out.below h_ (by omega)); replace OS := Lib.hid (OS.out.below h_ (by omega)); replace O2 := Lib.hid (O2.out.below h_ (by omega)); replace KX := Lib.hid (KX.out.below h_ (by omega)); replace KG := Lib.hid (KG.out.below h_ (by omega)); replace OG := Lib.hid (OG.out.below h_ (by omega))
        replace HB := Lib.hid (HB.out.trans (h_.mono (by omega)))
        clear h_
        go_wp2_with fail
        have hd_ : Below w12.heap.size w12 w12.drew := Below.drew (Below.refl _ _)
        have hdz_ : w12.drew.heap.size = w12.heap.size := rfl
        have hS_ : w12.drew.cell? ⟨w.heap.size, 0, none⟩ = some a ∧ w12.drew.cell? ⟨w.heap.size, 1, none⟩ = some b ∧ w12.drew.cell? ⟨w.heap.size, 2, none⟩ = some c ∧ w12.drew.cell? ⟨w.heap.size, 3, none⟩ = some d ∧ w12.drew.cell? ⟨gx, 0, none⟩ = some (.slice x0 D.first.length x1) ∧ w12.drew.cell? ⟨gx, 1, none⟩ = some (.slice x2 D.goal.length x3) ∧ w12.drew.cell? ⟨gx, 2, none⟩ = some (.slice x4 D.made.length x5) ∧ w12.drew.cell? ⟨gx, 3, none⟩ = some (.slice x6 D.now.length x7) := ⟨K0.out.cell 0, K0.out.cell 1, K0.out.cell 2, K0.out.cell 3, KX.out.cell 0, KX.out.cell 1, KX.out.cell 2, KX.out.cell 3⟩
        have HXd := Lib.hid (HX.out.below hd_ (by omega))
        go_region_held3 (fun w' => w'.cell? ⟨w.heap.size, 0, none⟩ = some a ∧ w'.cell? ⟨w.heap.size, 1, none⟩ = some b ∧ w'.cell? ⟨w.heap.size, 2, none⟩ = some c ∧ w'.cell? ⟨w.heap.size, 3, none⟩ = some d ∧ w'.cell? ⟨gx, 0, none⟩ = some (.slice x0 D.first.length x1) ∧ w'.cell? ⟨gx, 1, none⟩ = some (.slice x2 D.goal.length x3) ∧ w'.cell? ⟨gx, 2, none⟩ = some (.slice x4 D.made.length x5) ∧ w'.cell? ⟨gx, 3, none⟩ = some (.slice x6 D.now.length x7)) (first | with_reducible assumption | go_keep) (first
          | (go_at_call 51; refine (toDesk_any _ _ a b c d D _ HXd.out (by omega) hm).mono ?_; rintro e5_ w13 ⟨r0_, r1_, r2_, r3_, rfl, hb_, o_⟩; (have hz_ := hb_.size); (have HBa := Lib.hid (hd_.trans (hb_.mono (by omega)))); (have K0a := Lib.hid (K0.out.below HBa.out (by omega))); (have KXa := Lib.hid (KX.out.below HBa.out (by omega))); (have OXa := Lib.hid (O2.out.below HBa.out (by omega))); (have ORa := Lib.hid o_); (have hSa_ : w13.cell? ⟨w.heap.size, 0, none⟩ = some a ∧ w13.cell? ⟨w.heap.size, 1, none⟩ = some b ∧ w13.cell? ⟨w.heap.size, 2, none⟩ = some c ∧ w13.cell? ⟨w.heap.size, 3, none⟩ = some d ∧ w13.cell? ⟨gx, 0, none⟩ = some (.slice x0 D.first.length x1) ∧ w13.cell? ⟨gx, 1, none⟩ = some (.slice x2 D.goal.length x3) ∧ w13.cell? ⟨gx, 2, none⟩ = some (.slice x4 D.made.length x5) ∧ w13.cell? ⟨gx, 3, none⟩ = some (.slice x6 D.now.length x7) := ⟨K0a.out.cell 0, K0a.out.cell 1, K0a.out.cell 2, K0a.out.cell 3, KXa.out.cell 0, KXa.out.cell 1, KXa.out.cell 2, KXa.out.cell 3⟩); clear hb_ o_)
          | (go_at_call 52; refine (eqDesk_same _ _ _ _ _ _ _ _ _ _ _ _ D _ OXa.out.at ORa.out.at (by omega) (by omega) hm).mono ?_; rintro e6_ w14 ⟨rfl, hb_⟩; (have hz2_ := hb_.size); (have HBb := Lib.hid (HBa.out.trans (hb_.mono (by omega)))); (have hSb_ : w14.cell? ⟨w.heap.size, 0, none⟩ = some a ∧ w14.cell? ⟨w.heap.size, 1, none⟩ = some b ∧ w14.cell? ⟨w.heap.size, 2, none⟩ = some c ∧ w14.cell? ⟨w.heap.size, 3, none⟩ = some d ∧ w14.cell? ⟨gx, 0, none⟩ = some (.slice x0 D.first.length x1) ∧ w14.cell? ⟨gx, 1, none⟩ = some (.slice x2 D.goal.length x3) ∧ w14.cell? ⟨gx, 2, none⟩ = some (.slice x4 D.made.length x5) ∧ w14.cell? ⟨gx, 3, none⟩ = some (.slice x6 D.now.length x7) := ⟨(K0a.out.below hb_ (by omega)).cell 0, (K0a.out.below hb_ (by omega)).cell 1, (K0a.out.below hb_ (by omega)).cell 2, (K0a.out.below hb_ (by omega)).cell 3, (KXa.out.below hb_ (by omega)).cell 0, (KXa.out.below hb_ (by omega)).cell 1, (KXa.out.below hb_ (by omega)).cell 2, (KXa.out.below hb_ (by omega)).cell 3⟩); clear hb_))
        have hsq_ := HBb.out.size
        replace HX := Lib.hid (HX.out.below HBb.out (by omega))
        replace K0 := Lib.hid (K0.out.below HBb.out (by omega))
        replace KA := Lib.hid (KA.out.below HBb.out (by omega))
        replace KS := Lib.hid (KS.out.below HBb.out (by omega))
        replace OS := Lib.hid (OS.out.below HBb.out (by omega))
        replace O2 := Lib.hid (O2.out.below HBb.out (by omega))
        replace KX := Lib.hid (KX.out.below HBb.out (by omega))
        replace KG := Lib.hid (KG.out.below HBb.out (by omega))
        replace OG := Lib.hid (OG.out.below HBb.out (by omega))
        replace HB := Lib.hid (HB.out.trans (HBb.out.mono (by omega)))
        clear HBb hSb_ hSa_ hS_ hd_ hdz_ HXd HBa K0a KXa OXa ORa
        have c_KX_0 := KX.out.cell 0
        have c_KX_1 := KX.out.cell 1
        have c_KX_2 := KX.out.cell 2
        have c_KX_3 := KX.out.cell 3
        go_wp2_with fail
        clear c_KX_0 c_KX_1 c_KX_2 c_KX_3
        refine (markDesk_any _ _ _ _ _ _ D 1 _ O2.out (by omega) hm (by omega) (by omega)).mono ?_
        rintro e w15 ⟨rfl, h_, o_⟩
        have hs15 := h_.size
        replace HX := Lib.hid (HX.out.outside h_ (by omega)); replace K0 := Lib.hid (K0.out.outside h_ (by omega)); replace KA := Lib.hid (KA.out.outside h_ (by omega)); replace KS := Lib.hid (KS.out.outside h_ (by omega)); replace OS := Lib.hid (OS.out.outside h_ (by omega)); replace KX := Lib.hid (KX.out.outside h_ (by omega)); replace KG := Lib.hid (KG.out.outside h_ (by omega)); replace OG := Lib.hid (OG.out.outside h_ (by omega))
        replace HB := Lib.hid (Below.outside HB.out h_ (by omega) (by omega))
        clear O2 o_
        clear h_
        have c_KG_0 := KG.out.cell 0
        have c_KG_1 := KG.out.cell 1
        have c_KG_2 := KG.out.cell 2
        have c_KG_3 := KG.out.cell 3
        have c_KS_0 := KS.out.cell 0
        have c_KS_1 := KS.out.cell 1
        have c_KS_2 := KS.out.cell 2
        have c_KS_3 := KS.out.cell 3
        go_wp2_with fail
        clear c_KG_0 c_KG_1 c_KG_2 c_KG_3 c_KS_0 c_KS_1 c_KS_2 c_KS_3
        refine (eqDesk_same _ _ _ _ _ _ _ _ _ _ _ _ R _ OG.out.at OS.out.at (by omega) (by omega) hRs).mono ?_
        rintro e w16 ⟨rfl, h_⟩
        have hs16 := h_.size
        replace HX := Lib.hid (HX.out.below h_ (by omega)); replace K0 := Lib.hid (K0.out.below h_ (by omega)); replace KA := Lib.hid (KA.out.below h_ (by omega)); replace KS := Lib.hid (KS.out.below h_ (by omega)); replace OS := Lib.hid (OS.out.below h_ (by omega)); replace KX := Lib.hid (KX.out.below h_ (by omega)); replace KG := Lib.hid (KG.out.below h_ (by omega)); replace OG := Lib.hid (OG.out.below h_ (by omega))
        replace HB := Lib.hid (HB.out.trans (h_.mono (by omega)))
        clear h_
        have c_KG_0 := KG.out.cell 0
        have c_KG_1 := KG.out.cell 1
        have c_KG_2 := KG.out.cell 2
        have c_KG_3 := KG.out.cell 3
        go_wp2_with fail
        clear c_KG_0 c_KG_1 c_KG_2 c_KG_3
        refine (markDesk_any _ _ _ _ _ _ R 1 _ OG.out (by omega) hRs (by omega) (by omega)).mono ?_
        rintro e w17 ⟨rfl, h_, o_⟩
        have hs17 := h_.size
        replace HX := Lib.hid (HX.out.outside h_ (by omega)); replace K0 := Lib.hid (K0.out.outside h_ (by omega)); replace KA := Lib.hid (KA.out.outside h_ (by omega)); replace KS := Lib.hid (KS.out.outside h_ (by omega)); replace OS := Lib.hid (OS.out.outside h_ (by omega)); replace KX := Lib.hid (KX.out.outside h_ (by omega)); replace KG := Lib.hid (KG.out.outside h_ (by omega))
        replace HB := Lib.hid (Below.outside HB.out h_ (by omega) (by omega))
        replace OG := Lib.hid (o_)
        clear o_
        clear h_
        have c_KG_0 := KG.out.cell 0
        have c_KG_1 := KG.out.cell 1
        have c_KG_2 := KG.out.cell 2
        have c_KG_3 := KG.out.cell 3
        go_wp2_with fail
        clear c_KG_0 c_KG_1 c_KG_2 c_KG_3
        refine (heldDesk_any _ _ _ _ _ _ R 1 _ OG.out.at (by omega) hRs (by omega) (by omega)).mono ?_
        rintro e w18 ⟨rfl, h_⟩
        have hs18 := h_.size
        replace HX := Lib.hid (HX.out.below h_ (by omega)); replace K0 := Lib.hid (K0.out.below h_ (by omega)); replace KA := Lib.hid (KA.out.below h_ (by omega)); replace KS := Lib.hid (KS.out.below h_ (by omega)); replace OS := Lib.hid (OS.out.below h_ (by omega)); replace KX := Lib.hid (KX.out.below h_ (by omega)); replace KG := Lib.hid (KG.out.below h_ (by omega)); replace OG := Lib.hid (OG.out.below h_ (by omega))
        replace HB := Lib.hid (HB.out.trans (h_.mono (by omega)))
        clear h_
        go_upto_region 24 with fail
        go_cut [14, 15] (fun p_ q_ wx => ∃ (g_ : Nat) (y0 y1 y2 y3 : Value) (l_ h_ : Nat), p_ = .pointer (some ⟨g_, 0, none⟩) ∧ q_ = .bool t ∧ Hid (Blk g_ (.cells #[y0, y1, y2, y3] 35) wx ∧ DeskOwn l_ h_ wx y0 y1 y2 y3 R ∧ h_ ≤ wx.heap.size ∧ w18.heap.size ≤ g_ ∧ w18.heap.size ≤ l_ ∧ (g_ < l_ ∨ h_ ≤ g_) ∧ Below w18.heap.size w18 wx))
        case first =>
          have hbA : Below w18.heap.size w18 w18.drew := Below.drew (Below.refl _ _)
          have hbB : Below w18.heap.size w18 (w18.alloc (.cells #[.slice none 0 0, .slice none 0 0, .slice none 0 0, .slice none 0 0] 35)).drew := Below.drew ((Below.refl _ _).alloc (Nat.le_refl _) _)
          have hdA : w18.drew.heap.size = w18.heap.size := rfl
          have hdB : (w18.alloc (.cells #[.slice none 0 0, .slice none 0 0, .slice none 0 0, .slice none 0 0] 35)).drew.heap.size = w18.heap.size + 1 := alloc_size _ _
          have KNB := Lib.hid (show Blk w18.heap.size (.cells #[.slice none 0 0, .slice none 0 0, .slice none 0 0, .slice none 0 0] 35) (w18.alloc (.cells #[.slice none 0 0, .slice none 0 0, .slice none 0 0, .slice none 0 0] 35)).drew from Blk.new w18 _)
          have hgs : ∀ w' : World, Below w18.heap.size w18 w' → w'.cell? ⟨w.heap.size, 0, none⟩ = some a ∧ w'.cell? ⟨w.heap.size, 1, none⟩ = some b ∧ w'.cell? ⟨w.heap.size, 2, none⟩ = some c ∧ w'.cell? ⟨w.heap.size, 3, none⟩ = some d ∧ w'.cell? ⟨w.heap.size + 1, 0, none⟩ = some (.int .i64 A.kind) ∧ w'.cell? ⟨w.heap.size + 1, 1, none⟩ = some (.int .i64 A.step.which) ∧ w'.cell? ⟨w.heap.size + 1, 2, none⟩ = some (.bool A.step.back) ∧ w'.cell? ⟨w.heap.size + 1, 3, none⟩ = some (.int .i64 A.step.at_) ∧ w'.cell? ⟨w.heap.size + 1, 4, none⟩ = some (.int .i64 A.count) := fun w' hb => ⟨(K0.out.below hb (by omega)).cell 0, (K0.out.below hb (by omega)).cell 1, (K0.out.below hb (by omega)).cell 2, (K0.out.below hb (by omega)).cell 3, (KA.out.below hb (by omega)).cell 0, (KA.out.below hb (by omega)).cell 1, (KA.out.below hb (by omega)).cell 2, (KA.out.below hb (by omega)).cell 3, (KA.out.below hb (by omega)).cell 4⟩
          have hS := hgs w18 (Below.refl _ _)
          have hSA := hgs _ hbA
          have hSB := hgs _ hbB
          have HGS := Lib.hid hgs
          clear hgs
          have HXA := Lib.hid (HX.out.below hbA (by omega))
          have HXB := Lib.hid (HX.out.below hbB (by omega))
          go_region_held3 (fun w' => w'.cell? ⟨w.heap.size, 0, none⟩ = some a ∧ w'.cell? ⟨w.heap.size, 1, none⟩ = some b ∧ w'.cell? ⟨w.heap.size, 2, none⟩ = some c ∧ w'.cell? ⟨w.heap.size, 3, none⟩ = some d ∧ w'.cell? ⟨w.heap.size + 1, 0, none⟩ = some (.int .i64 A.kind) ∧ w'.cell? ⟨w.heap.size + 1, 1, none⟩ = some (.int .i64 A.step.which) ∧ w'.cell? ⟨w.heap.size + 1, 2, none⟩ = some (.bool A.step.back) ∧ w'.cell? ⟨w.heap.size + 1, 3, none⟩ = some (.int .i64 A.step.at_) ∧ w'.cell? ⟨w.heap.size + 1, 4, none⟩ = some (.int .i64 A.count)) (first | with_reducible assumption | go_keep) (first
            | (go_at_call 51; refine (toDesk_any _ _ a b c d D w18.drew HXA.out (by omega) hm).mono ?_; rintro e1 w19 ⟨r0, r1, r2, r3, rfl, hb_, o_⟩; (have hs_w19 := hb_.size); (have hb1 := hbA.trans (hb_.mono (by omega))); (have hS1 := HGS.out _ hb1); (have hSN1 := HGS.out _ (hb1.alloc (by omega) (.cells #[.slice none 0 0, .slice none 0 0, .slice none 0 0, .slice none 0 0] 35))); (have hz_w19 : (w19.alloc (.cells #[.slice none 0 0, .slice none 0 0, .slice none 0 0, .slice none 0 0] 35)).heap.size = w19.heap.size + 1 := alloc_size _ _); (have O1 := Lib.hid o_);  clear hb_ o_)
            | (go_at_call 51; refine (toDesk_any _ _ a b c d D (w18.alloc (.cells #[.slice none 0 0, .slice none 0 0, .slice none 0 0, .slice none 0 0] 35)).drew HXB.out (by omega) hm).mono ?_; rintro e1 w19 ⟨r0, r1, r2, r3, rfl, hb_, o_⟩; (have hs_w19 := hb_.size); (have hb1 := hbB.trans (hb_.mono (by omega))); (have hS1 := HGS.out _ hb1); (have hSN1 := HGS.out _ (hb1.alloc (by omega) (.cells #[.slice none 0 0, .slice none 0 0, .slice none 0 0, .slice none 0 0] 35))); (have hz_w19 : (w19.alloc (.cells #[.slice none 0 0, .slice none 0 0, .slice none 0 0, .slice none 0 0] 35)).heap.size = w19.heap.size + 1 := alloc_size _ _); (have O1 := Lib.hid o_); (have KN := Lib.hid (KNB.out.below hb_ (by omega))); clear hb_ o_)
            | (go_at_call 58; refine (toAct_any A w19).mono ?_; rintro e2 w20 ⟨rfl, hb_⟩; (have hs_w20 := hb_.size); (have hb2 := hb1.trans (hb_.mono (by omega))); (have hS2 := HGS.out _ hb2); (have hSN2 := HGS.out _ (hb2.alloc (by omega) (.cells #[.slice none 0 0, .slice none 0 0, .slice none 0 0, .slice none 0 0] 35))); (have hz_w20 : (w20.alloc (.cells #[.slice none 0 0, .slice none 0 0, .slice none 0 0, .slice none 0 0] 35)).heap.size = w20.heap.size + 1 := alloc_size _ _); (replace O1 := Lib.hid (O1.out.below hb_ (by omega))); (try (replace KN := Lib.hid (KN.out.below hb_ (by omega)))); clear hb_)
            | (go_at_call 58; refine (toAct_any A (w19.alloc (.cells #[.slice none 0 0, .slice none 0 0, .slice none 0 0, .slice none 0 0] 35))).mono ?_; rintro e2 w20 ⟨rfl, hb_⟩; (have hs_w20 := hb_.size); (have hb2 := (hb1.alloc (by omega) _).trans (hb_.mono (by omega))); (have hS2 := HGS.out _ hb2); (have hSN2 := HGS.out _ (hb2.alloc (by omega) (.cells #[.slice none 0 0, .slice none 0 0, .slice none 0 0, .slice none 0 0] 35))); (have hz_w20 : (w20.alloc (.cells #[.slice none 0 0, .slice none 0 0, .slice none 0 0, .slice none 0 0] 35)).heap.size = w20.heap.size + 1 := alloc_size _ _); (replace O1 := Lib.hid ((O1.out.below ((Below.refl _ _).alloc (Nat.le_refl _) _) (by omega)).below hb_ (by omega))); (have KN := Lib.hid ((Blk.new w19 _).below hb_ (by omega))); clear hb_)
            | (go_at_call 59; refine (impl_DeskDo _ _ _ _ _ _ D A w20 (HE.out.below (HB.out.trans (hb2.mono (by omega)))) O1.out.at (by omega) hm).mono ?_; rintro e3 w21 ⟨y0, y1, y2, y3, ok, rfl, o_, hok, hb_⟩; rw [HR.out] at o_ hok; obtain rfl : t = ok := hok.symm; obtain ⟨z0, z1, z2, z3, z4, z5, z6, z7, i0, i1, i2, i3⟩ := o_.open; subst i0 i1 i2 i3; (have hs_w21 := hb_.size); (have hb3 := hb2.trans (hb_.mono (by omega))); (have hS3 := HGS.out _ hb3); (have hSN3 := HGS.out _ (hb3.alloc (by omega) (.cells #[.slice none 0 0, .slice none 0 0, .slice none 0 0, .slice none 0 0] 35))); (have hSL := HGS.out _ (hb3.alloc (by omega) (.cells #[(.slice z0 R.first.length z1), (.slice z2 R.goal.length z3), (.slice z4 R.made.length z5), (.slice z6 R.now.length z7)] 35))); (have hS40 := HGS.out _ (Below.outside hb3 (Outside.set4 w18.heap.size w21 (.slice z0 R.first.length z1) (.slice z2 R.goal.length z3) (.slice z4 R.made.length z5) (.slice z6 R.now.length z7)) (by omega) (by omega))); (have hS41 := HGS.out _ (Below.outside hb3 (Outside.set4 w19.heap.size w21 (.slice z0 R.first.length z1) (.slice z2 R.goal.length z3) (.slice z4 R.made.length z5) (.slice z6 R.now.length z7)) (by omega) (by omega))); (have hS42 := HGS.out _ (Below.outside hb3 (Outside.set4 w20.heap.size w21 (.slice z0 R.first.length z1) (.slice z2 R.goal.length z3) (.slice z4 R.made.length z5) (.slice z6 R.now.length z7)) (by omega) (by omega))); (try (have kn := KN.out.below hb_ (by omega); have c0 := kn.cell 0; have c1 := kn.cell 1; have c2 := kn.cell 2; have c3 := kn.cell 3; have f0 := kn.free 0; have f1 := kn.free 1; have f2 := kn.free 2; have f3 := kn.free 3; have KM := Lib.hid kn; clear kn)); (have O3 := Lib.hid o_); clear hb_ o_ hok)
            | (go_at_call 59; refine (impl_DeskDo _ _ _ _ _ _ D A (w20.alloc (.cells #[.slice none 0 0, .slice none 0 0, .slice none 0 0, .slice none 0 0] 35)) (HE.out.below (HB.out.trans ((hb2.alloc (by omega) _).mono (by omega)))) (O1.out.below ((Below.refl _ _).alloc (Nat.le_refl _) _) (by omega)).at (by omega) hm).mono ?_; rintro e3 w21 ⟨y0, y1, y2, y3, ok, rfl, o_, hok, hb_⟩; rw [HR.out] at o_ hok; obtain rfl : t = ok := hok.symm; obtain ⟨z0, z1, z2, z3, z4, z5, z6, z7, i0, i1, i2, i3⟩ := o_.open; subst i0 i1 i2 i3; (have hs_w21 := hb_.size); (have hb3 := (hb2.alloc (by omega) _).trans (hb_.mono (by omega))); (have hS3 := HGS.out _ hb3); (have hSN3 := HGS.out _ (hb3.alloc (by omega) (.cells #[.slice none 0 0, .slice none 0 0, .slice none 0 0, .slice none 0 0] 35))); (have hSL := HGS.out _ (hb3.alloc (by omega) (.cells #[(.slice z0 R.first.length z1), (.slice z2 R.goal.length z3), (.slice z4 R.made.length z5), (.slice z6 R.now.length z7)] 35))); (have hS40 := HGS.out _ (Below.outside hb3 (Outside.set4 w18.heap.size w21 (.slice z0 R.first.length z1) (.slice z2 R.goal.length z3) (.slice z4 R.made.length z5) (.slice z6 R.now.length z7)) (by omega) (by omega))); (have hS41 := HGS.out _ (Below.outside hb3 (Outside.set4 w19.heap.size w21 (.slice z0 R.first.length z1) (.slice z2 R.goal.length z3) (.slice z4 R.made.length z5) (.slice z6 R.now.length z7)) (by omega) (by omega))); (have hS42 := HGS.out _ (Below.outside hb3 (Outside.set4 w20.heap.size w21 (.slice z0 R.first.length z1) (.slice z2 R.goal.length z3) (.slice z4 R.made.length z5) (.slice z6 R.now.length z7)) (by omega) (by omega))); (have kn := (Blk.new w20 (.cells #[.slice none 0 0, .slice none 0 0, .slice none 0 0, .slice none 0 0] 35)).below hb_ (by omega)); (have c0 := kn.cell 0; have c1 := kn.cell 1; have c2 := kn.cell 2; have c3 := kn.cell 3; have f0 := kn.free 0; have f1 := kn.free 1; have f2 := kn.free 2; have f3 := kn.free 3; have KM := Lib.hid kn; clear kn); (have O3 := Lib.hid o_); clear hb_ o_ hok))
          all_goals (
            go_wp2_with fail
            go_meet
            first
              | exact ⟨_, _, _, _, _, _, _, rfl, rfl, Lib.hid ⟨Blk.new w21 _, O3.out.below ((Below.refl _ _).alloc (Nat.le_refl _) _) (by omega), by simp only [alloc_size]; omega, by omega, by omega, by omega, hb3.alloc (by omega) _⟩⟩
              | exact ⟨_, _, _, _, _, _, _, rfl, rfl, Lib.hid ⟨KM.out.set4 _ _ _ _, O3.out.outside (Outside.set4 _ _ _ _ _ _) (.inr (by omega)), by have hz0_ := (Outside.set4 w18.heap.size w21 (.slice z0 R.first.length z1) (.slice z2 R.goal.length z3) (.slice z4 R.made.length z5) (.slice z6 R.now.length z7)).size; have hz1_ := (Outside.set4 w19.heap.size w21 (.slice z0 R.first.length z1) (.slice z2 R.goal.length z3) (.slice z4 R.made.length z5) (.slice z6 R.now.length z7)).size; have hz2_ := (Outside.set4 w20.heap.size w21 (.slice z0 R.first.length z1) (.slice z2 R.goal.length z3) (.slice z4 R.made.length z5) (.slice z6 R.now.length z7)).size; omega, by omega, by omega, by omega, Below.outside hb3 (Outside.set4 _ _ _ _ _ _) (by omega) (by omega)⟩⟩)
        case rest =>
          obtain ⟨gh, v_0, v_1, v_2, v_3, l18_, u18_, rfl, rfl, HQ⟩ := hcut
          obtain ⟨w22, rfl⟩ : ∃ x_, x_ = wc := ⟨_, rfl⟩
          have KH := Lib.hid HQ.out.1
          have OH := Lib.hid HQ.out.2.1
          obtain ⟨hq1_18, hq2_18, hq3_18, hq4_18, h_⟩ := HQ.out.2.2
          have hgu_gh := KH.out.lt
          clear HQ
          have hs22 := h_.size
          replace HX := Lib.hid (HX.out.below h_ (by omega)); replace K0 := Lib.hid (K0.out.below h_ (by omega)); replace KA := Lib.hid (KA.out.below h_ (by omega)); replace KS := Lib.hid (KS.out.below h_ (by omega)); replace OS := Lib.hid (OS.out.below h_ (by omega)); replace KX := Lib.hid (KX.out.below h_ (by omega)); replace KG := Lib.hid (KG.out.below h_ (by omega)); replace OG := Lib.hid (OG.out.below h_ (by omega))
          replace HB := Lib.hid (HB.out.trans (h_.mono (by omega)))
          clear h_
          obtain ⟨v0, v1, v2, v3, v4, v5, v6, v7, rfl, rfl, rfl, rfl, _⟩ := OH.out.at.shapes
          have c_KH_0 := KH.out.cell 0
          have c_KH_1 := KH.out.cell 1
          have c_KH_2 := KH.out.cell 2
          have c_KH_3 := KH.out.cell 3
          have c_KS_0 := KS.out.cell 0
          have c_KS_1 := KS.out.cell 1
          have c_KS_2 := KS.out.cell 2
          have c_KS_3 := KS.out.cell 3
          go_wp2_with fail
          clear c_KH_0 c_KH_1 c_KH_2 c_KH_3 c_KS_0 c_KS_1 c_KS_2 c_KS_3
          refine (eqDesk_same _ _ _ _ _ _ _ _ _ _ _ _ R _ OH.out.at OS.out.at (by omega) (by omega) hRs).mono ?_
          rintro e w23 ⟨rfl, h_⟩
          have hs23 := h_.size
          replace HX := Lib.hid (HX.out.below h_ (by omega)); replace K0 := Lib.hid (K0.out.below h_ (by omega)); replace KA := Lib.hid (KA.out.below h_ (by omega)); replace KS := Lib.hid (KS.out.below h_ (by omega)); replace OS := Lib.hid (OS.out.below h_ (by omega)); replace KX := Lib.hid (KX.out.below h_ (by omega)); replace KG := Lib.hid (KG.out.below h_ (by omega)); replace OG := Lib.hid (OG.out.below h_ (by omega)); replace KH := Lib.hid (KH.out.below h_ (by omega)); replace OH := Lib.hid (OH.out.below h_ (by omega))
          replace HB := Lib.hid (HB.out.trans (h_.mono (by omega)))
          clear h_
          have c_KG_0 := KG.out.cell 0
          have c_KG_1 := KG.out.cell 1
          have c_KG_2 := KG.out.cell 2
          have c_KG_3 := KG.out.cell 3
          go_wp2_with fail
          clear c_KG_0 c_KG_1 c_KG_2 c_KG_3
          refine (heldDesk_any _ _ _ _ _ _ R 1 _ OG.out.at (by omega) hRs (by omega) (by omega)).mono ?_
          rintro e w24 ⟨rfl, h_⟩
          have hs24 := h_.size
          replace HX := Lib.hid (HX.out.below h_ (by omega)); replace K0 := Lib.hid (K0.out.below h_ (by omega)); replace KA := Lib.hid (KA.out.below h_ (by omega)); replace KS := Lib.hid (KS.out.below h_ (by omega)); replace OS := Lib.hid (OS.out.below h_ (by omega)); replace KX := Lib.hid (KX.out.below h_ (by omega)); replace KG := Lib.hid (KG.out.below h_ (by omega)); replace OG := Lib.hid (OG.out.below h_ (by omega)); replace KH := Lib.hid (KH.out.below h_ (by omega)); replace OH := Lib.hid (OH.out.below h_ (by omega))
          replace HB := Lib.hid (HB.out.trans (h_.mono (by omega)))
          clear h_
          go_wp2
          go_ret
          exact ⟨rfl, HB.out⟩
  · have k0 := K0.out.cell 0
    have k1 := K0.out.cell 1
    have k2 := K0.out.cell 2
    have k3 := K0.out.cell 3
    go_enter Tryz.func13, Tryz.ntmps13
    go_wp2_with (rw [← HW0.out])
    refine (szDesk_any _ _ a b c d D (-1) _ HX.out (fun _ => rfl) (by omega)).mono ?_
    rintro e_ w_ ⟨rfl, h_⟩
    go_wp2
    go_ret
    exact ⟨rfl, HB.out.trans (h_.mono (by omega))⟩
end Go.Proofs.YtjpndimhegfbnaaGreatDoor
