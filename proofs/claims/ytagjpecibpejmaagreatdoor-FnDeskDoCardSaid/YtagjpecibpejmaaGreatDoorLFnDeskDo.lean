/-
  Texts of walks and plain lemmas for this seat; no condition.
-/
import Derived.Test.YtagjpecibpejmaaGreatDoorDDraws
import Derived.Test.YtagjpecibpejmaaGreatDoorGN
import Derived.Test.YtagjpecibpejmaaGreatDoorGO
import Derived.Test.YtagjpecibpejmaaGreatDoorIMoveDo
namespace Go.Proofs.YtagjpecibpejmaaGreatDoor
open Go.RowKit

theorem slI_eq {lo hi : Nat} {w : World} {v : Value} {xs ys : List Int} (h : SlI lo hi w v xs) (e : xs = ys) : SlI lo hi w v ys := e ▸ h
theorem Dsk.first_le (D : Dsk) : D.first.length ≤ D.size := by unfold Dsk.size; omega
theorem Dsk.now_le (D : Dsk) : D.now.length ≤ D.size := by unfold Dsk.size; omega
theorem Dsk.goal_le (D : Dsk) : D.goal.length ≤ D.size := by unfold Dsk.size; omega

set_option maxRecDepth 100000 in
set_option maxHeartbeats 6400000 in
theorem law_FnDeskDo (v : Value) (cs : List Int) (w : World) (hx : SlB 0 w.heap.size w v cs) (hE : EnvK w) :
    Calls Tryz.prog 9 #[v] w fun e w' => e = .returned (.bool true) ∧ Below w.heap.size w w' := by
  have HX := Lib.hid hx
  have HE := Lib.hid hE
  obtain ⟨⟨a, cap, rfl, hcap, hcm, _⟩, _⟩ := hx
  unfold maxLen at hcm
  clear hE
  by_cases hm : cs.length ≤ 1048576
  · go_enter Tryz.func9, Tryz.ntmps9
    go_wp2_with fail
    refine (DrawDeskDo_any _ cs _ HX.out).mono ?_
    rintro e w1 ⟨e0, e1, e2, e3, D, A, rfl, hb, hd, hs⟩
    obtain ⟨p0, p1, p2, p3, p4, p5, p6, p7, rfl, rfl, rfl, rfl, _⟩ := hd.shapes
    obtain ⟨w2, hw2⟩ : ∃ w2, w2 = (w1.alloc (.cells #[(.slice p0 D.first.length p1), (.slice p2 D.goal.length p3), (.slice p4 D.made.length p5), (.slice p6 D.now.length p7)] 58)).alloc (.cells #[.int .i64 A.kind, .int .i64 A.step.which, .bool A.step.back, .int .i64 A.step.at_, .int .i64 A.count] 51) := ⟨_, rfl⟩
    have hb2 : Below w1.heap.size w1 w2 := by rw [hw2]; exact ((Below.refl _ _).alloc (Nat.le_refl _) _).alloc (by simp) _
    have hs2 : w2.heap.size = w1.heap.size + 2 := by rw [hw2]; simp
    have KD : Hid (Blk w1.heap.size (.cells #[(.slice p0 D.first.length p1), (.slice p2 D.goal.length p3), (.slice p4 D.made.length p5), (.slice p6 D.now.length p7)] 58) w2) := by
      rw [hw2]
      exact Lib.hid ((Blk.new w1 _).below ((Below.refl (w1.alloc _).heap.size _).alloc (Nat.le_refl _) _) (by simp))
    have KA : Hid (Blk (w1.heap.size + 1) (.cells #[.int .i64 A.kind, .int .i64 A.step.which, .bool A.step.back, .int .i64 A.step.at_, .int .i64 A.count] 51) w2) := by
      have h := Blk.new (w1.alloc (.cells #[(.slice p0 D.first.length p1), (.slice p2 D.goal.length p3), (.slice p4 D.made.length p5), (.slice p6 D.now.length p7)] 58)) (.cells #[.int .i64 A.kind, .int .i64 A.step.which, .bool A.step.back, .int .i64 A.step.at_, .int .i64 A.count] 51)
      rw [alloc_size] at h
      rw [hw2]; exact Lib.hid h
    have OD := Lib.hid (hd.below hb2 (Nat.le_refl _))
    have hsb := hb.size
    have HB := Lib.hid (hb.trans (hb2.mono hb.size))
    obtain ⟨R, t, hR⟩ : ∃ R t, deskDo D A = (R, t) := ⟨_, _, rfl⟩
    have HR := Lib.hid hR
    have hRs : R.size ≤ 1048576 := by
      have h := deskDo_size2 D A
      rw [hR] at h
      exact Nat.le_trans h (by omega)
    have htt : (t != t) = false := by simp
    clear hR hd hb hb2
    go_wp2_with fail
    obtain ⟨gd, hgd⟩ : ∃ gd, gd = w1.heap.size := ⟨_, rfl⟩
    simp only [← hw2]
    clear hw2
    simp only [← hgd] at KD KA
    simp only [← hgd]
    have hgd2 : gd + 2 = w2.heap.size := by omega
    clear hgd
    skip
    refine (impl_DeskDo _ _ _ _ _ _ D A _ (HE.out.below HB.out) OD.out (by omega) hs).mono ?_
    rintro e w3 ⟨d0, d1, d2, d3, ok, rfl, o_, hok, h_⟩
    have hs3 := h_.size
    replace OD := Lib.hid (OD.out.below h_ (by omega)); replace KD := Lib.hid (KD.out.below h_ (by omega)); replace KA := Lib.hid (KA.out.below h_ (by omega))
    replace HB := Lib.hid (HB.out.trans (h_.mono (by omega)))
    rw [HR.out] at o_ hok
    obtain rfl : t = ok := hok.symm
    have OX := Lib.hid o_
    clear o_
    clear h_
    obtain ⟨x0, x1, x2, x3, x4, x5, x6, x7, rfl, rfl, rfl, rfl, _⟩ := OX.out.at.shapes
    obtain ⟨gx, hg_gx⟩ : ∃ g_, g_ = w3.heap.size := ⟨_, rfl⟩
    have hgl_gx : w3.heap.size ≤ gx := by omega
    have hlt_KD : gd < w3.heap.size := by omega
    have hlt_KA : gd + 1 < w3.heap.size := by omega
    have c_KD_0 := KD.out.cell 0
    have c_KD_1 := KD.out.cell 1
    have c_KD_2 := KD.out.cell 2
    have c_KD_3 := KD.out.cell 3
    have c_KA_0 := KA.out.cell 0
    have c_KA_1 := KA.out.cell 1
    have c_KA_2 := KA.out.cell 2
    have c_KA_3 := KA.out.cell 3
    have c_KA_4 := KA.out.cell 4
    go_wp2_with fail
    obtain ⟨w4, hw_⟩ : ∃ w_, w_ = w3.alloc (.cells #[(.slice x0 R.first.length x1), (.slice x2 R.goal.length x3), (.slice x4 R.made.length x5), (.slice x6 R.now.length x7)] 58) := ⟨_, rfl⟩
    obtain ⟨h_, K_, hs4⟩ := box_facts hw_
    simp only [← hw_]
    clear hw_
    replace OD := Lib.hid (OD.out.below h_ (by omega)); replace KD := Lib.hid (KD.out.below h_ (by omega)); replace KA := Lib.hid (KA.out.below h_ (by omega)); replace OX := Lib.hid (OX.out.below h_ (by omega))
    replace HB := Lib.hid (HB.out.trans (h_.mono (by omega)))
    have KX := Lib.hid K_
    clear h_ K_
    clear c_KD_0 c_KD_1 c_KD_2 c_KD_3 c_KA_0 c_KA_1 c_KA_2 c_KA_3 c_KA_4
    rw [← hg_gx] at KX
    have hgu_gx : gx < w4.heap.size := by omega
    have HG_gx := Lib.hid hg_gx
    simp only [← HG_gx.out]
    clear hg_gx
    skip
    refine (spec_DeskDo _ _ _ _ _ _ D A _ OD.out (by omega) hs).mono ?_
    rintro e w5 ⟨d0, d1, d2, d3, ok, rfl, o_, hok, h_⟩
    have hs5 := h_.size
    replace OD := Lib.hid (OD.out.below h_ (by omega)); replace KD := Lib.hid (KD.out.below h_ (by omega)); replace KA := Lib.hid (KA.out.below h_ (by omega)); replace OX := Lib.hid (OX.out.below h_ (by omega)); replace KX := Lib.hid (KX.out.below h_ (by omega))
    replace HB := Lib.hid (HB.out.trans (h_.mono (by omega)))
    rw [HR.out] at o_ hok
    obtain rfl : t = ok := hok.symm
    have OY := Lib.hid o_
    clear o_
    clear h_
    obtain ⟨y0, y1, y2, y3, y4, y5, y6, y7, rfl, rfl, rfl, rfl, _⟩ := OY.out.at.shapes
    obtain ⟨gy, hg_gy⟩ : ∃ g_, g_ = w5.heap.size := ⟨_, rfl⟩
    have hgl_gy : w5.heap.size ≤ gy := by omega
    have hlt_KX : gx < w5.heap.size := by omega
    have c_KX_0 := KX.out.cell 0
    have c_KX_1 := KX.out.cell 1
    have c_KX_2 := KX.out.cell 2
    have c_KX_3 := KX.out.cell 3
    go_wp2_with fail
    obtain ⟨w6, hw_⟩ : ∃ w_, w_ = w5.alloc (.cells #[(.slice y0 R.first.length y1), (.slice y2 R.goal.length y3), (.slice y4 R.made.length y5), (.slice y6 R.now.length y7)] 58) := ⟨_, rfl⟩
    obtain ⟨h_, K_, hs6⟩ := box_facts hw_
    simp only [← hw_]
    clear hw_
    replace OD := Lib.hid (OD.out.below h_ (by omega)); replace KD := Lib.hid (KD.out.below h_ (by omega)); replace KA := Lib.hid (KA.out.below h_ (by omega)); replace OX := Lib.hid (OX.out.below h_ (by omega)); replace KX := Lib.hid (KX.out.below h_ (by omega)); replace OY := Lib.hid (OY.out.below h_ (by omega))
    replace HB := Lib.hid (HB.out.trans (h_.mono (by omega)))
    have KY := Lib.hid K_
    clear h_ K_
    clear c_KX_0 c_KX_1 c_KX_2 c_KX_3
    rw [← hg_gy] at KY
    have hgu_gy : gy < w6.heap.size := by omega
    have HG_gy := Lib.hid hg_gy
    simp only [← HG_gy.out]
    clear hg_gy
    skip
    refine (sameDesk_eq _ _ _ _ _ _ _ _ _ _ _ _ R _ OX.out.at OY.out.at (by omega) (by omega) hRs).mono ?_
    rintro e w7 ⟨rfl, h_⟩
    have hs7 := h_.size
    replace OD := Lib.hid (OD.out.below h_ (by omega)); replace KD := Lib.hid (KD.out.below h_ (by omega)); replace KA := Lib.hid (KA.out.below h_ (by omega)); replace OX := Lib.hid (OX.out.below h_ (by omega)); replace KX := Lib.hid (KX.out.below h_ (by omega))
    replace HB := Lib.hid (HB.out.trans (h_.mono (by omega)))
    clear h_
    clear KY
    clear OY
    cases t
    · skip
      by_cases hv : deskV D = true
      · have hRD : R = D := by have h := deskDo_no (a := A) hv (by rw [HR.out]); rw [HR.out] at h; exact h
        subst hRD
        have c_KX_0 := KX.out.cell 0
        have c_KX_1 := KX.out.cell 1
        have c_KX_2 := KX.out.cell 2
        have c_KX_3 := KX.out.cell 3
        have c_KD_0 := KD.out.cell 0
        have c_KD_1 := KD.out.cell 1
        have c_KD_2 := KD.out.cell 2
        have c_KD_3 := KD.out.cell 3
        go_wp2_with fail
        clear c_KX_0 c_KX_1 c_KX_2 c_KX_3 c_KD_0 c_KD_1 c_KD_2 c_KD_3
        refine (sameDesk_eq _ _ _ _ _ _ _ _ _ _ _ _ R _ OX.out.at OD.out (by omega) (by omega) hRs).mono ?_
        rintro e w8 ⟨rfl, h_⟩
        have hs8 := h_.size
        replace OD := Lib.hid (OD.out.below h_ (by omega)); replace KD := Lib.hid (KD.out.below h_ (by omega)); replace KA := Lib.hid (KA.out.below h_ (by omega)); replace OX := Lib.hid (OX.out.below h_ (by omega)); replace KX := Lib.hid (KX.out.below h_ (by omega))
        replace HB := Lib.hid (HB.out.trans (h_.mono (by omega)))
        clear h_
        go_wp2_with fail
        refine (alive_any _).mono ?_
        rintro e w_ ⟨rfl, rfl⟩
        go_wp2
        go_ret
        exact ⟨rfl, HB.out⟩
      · have hv2 : deskV D = false := by simpa using hv
        have c_KX_0 := KX.out.cell 0
        have c_KX_1 := KX.out.cell 1
        have c_KX_2 := KX.out.cell 2
        have c_KX_3 := KX.out.cell 3
        have c_KD_0 := KD.out.cell 0
        have c_KD_1 := KD.out.cell 1
        have c_KD_2 := KD.out.cell 2
        have c_KD_3 := KD.out.cell 3
        go_wp2_with fail
        clear c_KX_0 c_KX_1 c_KX_2 c_KX_3 c_KD_0 c_KD_1 c_KD_2 c_KD_3
        refine (sameDesk_some _ _ _ _ _ _ _ _ _ _ _ _ R D _ OX.out.at OD.out (by omega) (by omega) hRs).mono ?_
        rintro e w8 ⟨tb, rfl, h_⟩
        have hs8 := h_.size
        replace OD := Lib.hid (OD.out.below h_ (by omega)); replace KD := Lib.hid (KD.out.below h_ (by omega)); replace KA := Lib.hid (KA.out.below h_ (by omega)); replace OX := Lib.hid (OX.out.below h_ (by omega)); replace KX := Lib.hid (KX.out.below h_ (by omega))
        replace HB := Lib.hid (HB.out.trans (h_.mono (by omega)))
        clear h_
        cases tb
        · skip
          have c_KD_0 := KD.out.cell 0
          have c_KD_1 := KD.out.cell 1
          have c_KD_2 := KD.out.cell 2
          have c_KD_3 := KD.out.cell 3
          go_wp2_with fail
          clear c_KD_0 c_KD_1 c_KD_2 c_KD_3
          refine (impl_DeskValid _ _ _ _ _ _ D _ (HE.out.below HB.out) OD.out (by omega) hs).mono ?_
          rintro e w9 ⟨rfl, h_⟩
          have hs9 := h_.size
          replace OD := Lib.hid (OD.out.below h_ (by omega)); replace KD := Lib.hid (KD.out.below h_ (by omega)); replace KA := Lib.hid (KA.out.below h_ (by omega)); replace OX := Lib.hid (OX.out.below h_ (by omega)); replace KX := Lib.hid (KX.out.below h_ (by omega))
          replace HB := Lib.hid (HB.out.trans (h_.mono (by omega)))
          rw [hv2]
          clear h_
          go_wp2_with fail
          refine (alive_any _).mono ?_
          rintro e w_ ⟨rfl, rfl⟩
          go_wp2
          go_ret
          exact ⟨rfl, HB.out⟩
        · skip
          go_wp2_with fail
          refine (alive_any _).mono ?_
          rintro e w_ ⟨rfl, rfl⟩
          go_wp2
          go_ret
          exact ⟨rfl, HB.out⟩
    · obtain ⟨hvX, hne, hF, hG, hok⟩ := deskDo_ok HR.out
      have hv := (deskDo_open HR.out).1
      have hm1 := (deskV_parts hv).2.2.2.1
      have hm2 := (deskV_parts hvX).2.2.2.1
      obtain ⟨B, tb, hB⟩ : ∃ B tb, deskDo R ⟨1, ⟨0, false, 0⟩, (R.made.length : Int) - D.made.length⟩ = (B, tb) := ⟨_, _, rfl⟩
      have HBK := Lib.hid hB
      have HNE := Lib.hid hne
      have HVX := Lib.hid hvX
      have HOK := Lib.hid hok
      have HFG := Lib.hid (And.intro hF hG)
      have HBD := Lib.hid (fun hk : A.kind ≠ 1 => (hB.symm.trans (deskDo_back HR.out hk) : (B, tb) = (D, true)))
      clear hB hne hvX hok hF hG hv
      have c_KX_0 := KX.out.cell 0
      have c_KX_1 := KX.out.cell 1
      have c_KX_2 := KX.out.cell 2
      have c_KX_3 := KX.out.cell 3
      have c_KD_0 := KD.out.cell 0
      have c_KD_1 := KD.out.cell 1
      have c_KD_2 := KD.out.cell 2
      have c_KD_3 := KD.out.cell 3
      go_wp2_with fail
      clear c_KX_0 c_KX_1 c_KX_2 c_KX_3 c_KD_0 c_KD_1 c_KD_2 c_KD_3
      refine (impl_DeskDo _ _ _ _ _ _ R ⟨1, ⟨0, false, 0⟩, (R.made.length : Int) - D.made.length⟩ _ (HE.out.below HB.out) OX.out.at (by omega) hRs).mono ?_
      rintro e w8 ⟨d0, d1, d2, d3, ok, rfl, o_, hok, h_⟩
      have hs8 := h_.size
      replace OD := Lib.hid (OD.out.below h_ (by omega)); replace KD := Lib.hid (KD.out.below h_ (by omega)); replace KA := Lib.hid (KA.out.below h_ (by omega)); replace OX := Lib.hid (OX.out.below h_ (by omega)); replace KX := Lib.hid (KX.out.below h_ (by omega))
      replace HB := Lib.hid (HB.out.trans (h_.mono (by omega)))
      rw [HBK.out] at o_ hok
      obtain rfl : tb = ok := hok.symm
      have OB := Lib.hid o_
      clear o_
      clear h_
      obtain ⟨b0, b1, b2, b3, b4, b5, b6, b7, rfl, rfl, rfl, rfl, _⟩ := OB.out.at.shapes
      obtain ⟨kk, hkk⟩ : ∃ kk, kk = A.kind := ⟨_, rfl⟩
      rw [← hkk] at KA HBD
      clear hkk
      by_cases hk : kk = 1
      · subst hk
        have hbx_ : w8.heap.size = w8.heap.size := rfl
        obtain ⟨gb, hg_gb⟩ : ∃ g_, g_ = w8.heap.size := ⟨_, rfl⟩
        have hgl_gb : w8.heap.size ≤ gb := by omega
        have hlt_KX : gx < w8.heap.size := by omega
        have hlt_KA : gd + 1 < w8.heap.size := by omega
        have c_KX_0 := KX.out.cell 0
        have c_KX_1 := KX.out.cell 1
        have c_KX_2 := KX.out.cell 2
        have c_KX_3 := KX.out.cell 3
        have c_KA_0 := KA.out.cell 0
        have c_KA_1 := KA.out.cell 1
        have c_KA_2 := KA.out.cell 2
        have c_KA_3 := KA.out.cell 3
        have c_KA_4 := KA.out.cell 4
        go_wp2_with fail
        obtain ⟨w9, hw_⟩ : ∃ w_, w_ = w8.alloc (.cells #[(.slice b0 B.first.length b1), (.slice b2 B.goal.length b3), (.slice b4 B.made.length b5), (.slice b6 B.now.length b7)] 58) := ⟨_, rfl⟩
        obtain ⟨h_, K_, hs9⟩ := box_facts hw_
        simp only [← hw_]
        clear hw_
        replace OD := Lib.hid (OD.out.below h_ (by omega)); replace KD := Lib.hid (KD.out.below h_ (by omega)); replace KA := Lib.hid (KA.out.below h_ (by omega)); replace OX := Lib.hid (OX.out.below h_ (by omega)); replace KX := Lib.hid (KX.out.below h_ (by omega)); replace OB := Lib.hid (OB.out.below h_ (by omega))
        replace HB := Lib.hid (HB.out.trans (h_.mono (by omega)))
        have KB := Lib.hid K_
        clear h_ K_
        clear c_KX_0 c_KX_1 c_KX_2 c_KX_3 c_KA_0 c_KA_1 c_KA_2 c_KA_3 c_KA_4
        rw [← hg_gb] at KB
        have hgu_gb : gb < w9.heap.size := by omega
        have HG_gb := Lib.hid hg_gb
        simp only [← HG_gb.out]
        clear hg_gb
        have c_KX_0 := KX.out.cell 0
        have c_KX_1 := KX.out.cell 1
        have c_KX_2 := KX.out.cell 2
        have c_KX_3 := KX.out.cell 3
        skip
        clear c_KX_0 c_KX_1 c_KX_2 c_KX_3
        refine (impl_DeskValid _ _ _ _ _ _ R _ (HE.out.below HB.out) OX.out.at (by omega) hRs).mono ?_
        rintro e w10 ⟨rfl, h_⟩
        have hs10 := h_.size
        replace OD := Lib.hid (OD.out.below h_ (by omega)); replace KD := Lib.hid (KD.out.below h_ (by omega)); replace KA := Lib.hid (KA.out.below h_ (by omega)); replace OX := Lib.hid (OX.out.below h_ (by omega)); replace KX := Lib.hid (KX.out.below h_ (by omega)); replace OB := Lib.hid (OB.out.below h_ (by omega)); replace KB := Lib.hid (KB.out.below h_ (by omega))
        replace HB := Lib.hid (HB.out.trans (h_.mono (by omega)))
        rw [HVX.out]
        clear h_
        have c_KX_0 := KX.out.cell 0
        have c_KX_1 := KX.out.cell 1
        have c_KX_2 := KX.out.cell 2
        have c_KX_3 := KX.out.cell 3
        have c_KD_0 := KD.out.cell 0
        have c_KD_1 := KD.out.cell 1
        have c_KD_2 := KD.out.cell 2
        have c_KD_3 := KD.out.cell 3
        go_wp2_with fail
        clear c_KX_0 c_KX_1 c_KX_2 c_KX_3 c_KD_0 c_KD_1 c_KD_2 c_KD_3
        refine (sameDesk_ne _ _ _ _ _ _ _ _ _ _ _ _ R D _ OX.out.at OD.out (by omega) (by omega) hRs HFG.out.1.symm HFG.out.2.symm (Ne.symm HNE.out)).mono ?_
        rintro e w11 ⟨rfl, h_⟩
        have hs11 := h_.size
        replace OD := Lib.hid (OD.out.below h_ (by omega)); replace KD := Lib.hid (KD.out.below h_ (by omega)); replace KA := Lib.hid (KA.out.below h_ (by omega)); replace OX := Lib.hid (OX.out.below h_ (by omega)); replace KX := Lib.hid (KX.out.below h_ (by omega)); replace OB := Lib.hid (OB.out.below h_ (by omega)); replace KB := Lib.hid (KB.out.below h_ (by omega))
        replace HB := Lib.hid (HB.out.trans (h_.mono (by omega)))
        clear h_
        have c_KX_0 := KX.out.cell 0
        have c_KX_1 := KX.out.cell 1
        have c_KX_2 := KX.out.cell 2
        have c_KX_3 := KX.out.cell 3
        have c_KD_0 := KD.out.cell 0
        have c_KD_1 := KD.out.cell 1
        have c_KD_2 := KD.out.cell 2
        have c_KD_3 := KD.out.cell 3
        go_wp2_with fail
        clear c_KX_0 c_KX_1 c_KX_2 c_KX_3 c_KD_0 c_KD_1 c_KD_2 c_KD_3
        refine (sameInts_same _ _ _ _ _ _ D.first _ (slI_eq OX.out.at.first HFG.out.1) OD.out.first (Nat.le_trans D.first_le hs)).mono ?_
        rintro e w12 ⟨rfl, h_⟩
        have hs12 := h_.size
        replace OD := Lib.hid (OD.out.below h_ (by omega)); replace KD := Lib.hid (KD.out.below h_ (by omega)); replace KA := Lib.hid (KA.out.below h_ (by omega)); replace OX := Lib.hid (OX.out.below h_ (by omega)); replace KX := Lib.hid (KX.out.below h_ (by omega)); replace OB := Lib.hid (OB.out.below h_ (by omega)); replace KB := Lib.hid (KB.out.below h_ (by omega))
        replace HB := Lib.hid (HB.out.trans (h_.mono (by omega)))
        clear h_
        have c_KX_0 := KX.out.cell 0
        have c_KX_1 := KX.out.cell 1
        have c_KX_2 := KX.out.cell 2
        have c_KX_3 := KX.out.cell 3
        have c_KD_0 := KD.out.cell 0
        have c_KD_1 := KD.out.cell 1
        have c_KD_2 := KD.out.cell 2
        have c_KD_3 := KD.out.cell 3
        go_wp2_with fail
        clear c_KX_0 c_KX_1 c_KX_2 c_KX_3 c_KD_0 c_KD_1 c_KD_2 c_KD_3
        refine (sameInts_same _ _ _ _ _ _ D.goal _ (slI_eq OX.out.at.goal HFG.out.2) OD.out.goal (Nat.le_trans D.goal_le hs)).mono ?_
        rintro e w13 ⟨rfl, h_⟩
        have hs13 := h_.size
        replace OD := Lib.hid (OD.out.below h_ (by omega)); replace KD := Lib.hid (KD.out.below h_ (by omega)); replace KA := Lib.hid (KA.out.below h_ (by omega)); replace OX := Lib.hid (OX.out.below h_ (by omega)); replace KX := Lib.hid (KX.out.below h_ (by omega)); replace OB := Lib.hid (OB.out.below h_ (by omega)); replace KB := Lib.hid (KB.out.below h_ (by omega))
        replace HB := Lib.hid (HB.out.trans (h_.mono (by omega)))
        clear h_
        have c_KX_0 := KX.out.cell 0
        have c_KX_1 := KX.out.cell 1
        have c_KX_2 := KX.out.cell 2
        have c_KX_3 := KX.out.cell 3
        go_wp2_with fail
        clear c_KX_0 c_KX_1 c_KX_2 c_KX_3
        refine (impl_ProofOk _ _ _ _ _ _ _ _ _ R.first R.now R.made _ (HE.out.below HB.out) OX.out.at.first (Nat.le_trans R.first_le hRs) OX.out.at.now (by omega) (Nat.le_trans R.now_le hRs) OX.out.at.made (by omega)).mono ?_
        rintro e w14 ⟨rfl, h_⟩
        have hs14 := h_.size
        replace OD := Lib.hid (OD.out.below h_ (by omega)); replace KD := Lib.hid (KD.out.below h_ (by omega)); replace KA := Lib.hid (KA.out.below h_ (by omega)); replace OX := Lib.hid (OX.out.below h_ (by omega)); replace KX := Lib.hid (KX.out.below h_ (by omega)); replace OB := Lib.hid (OB.out.below h_ (by omega)); replace KB := Lib.hid (KB.out.below h_ (by omega))
        replace HB := Lib.hid (HB.out.trans (h_.mono (by omega)))
        rw [HOK.out]
        clear h_
        go_wp2
        go_ret
        exact ⟨rfl, HB.out⟩
      · have hbd := HBD.out hk
        obtain ⟨rfl, rfl⟩ : D = B ∧ tb = true := ⟨(congrArg Prod.fst hbd).symm, congrArg Prod.snd hbd⟩
        have hk1 : (kk != 1) = true := by simp [hk]
        obtain ⟨gb, hg_gb⟩ : ∃ g_, g_ = w8.heap.size := ⟨_, rfl⟩
        have hgl_gb : w8.heap.size ≤ gb := by omega
        have hlt_KD : gd < w8.heap.size := by omega
        have hlt_KA : gd + 1 < w8.heap.size := by omega
        have c_KD_0 := KD.out.cell 0
        have c_KD_1 := KD.out.cell 1
        have c_KD_2 := KD.out.cell 2
        have c_KD_3 := KD.out.cell 3
        have c_KA_0 := KA.out.cell 0
        have c_KA_1 := KA.out.cell 1
        have c_KA_2 := KA.out.cell 2
        have c_KA_3 := KA.out.cell 3
        have c_KA_4 := KA.out.cell 4
        go_wp2_with fail
        obtain ⟨w9, hw_⟩ : ∃ w_, w_ = w8.alloc (.cells #[(.slice b0 D.first.length b1), (.slice b2 D.goal.length b3), (.slice b4 D.made.length b5), (.slice b6 D.now.length b7)] 58) := ⟨_, rfl⟩
        obtain ⟨h_, K_, hs9⟩ := box_facts hw_
        simp only [← hw_]
        clear hw_
        replace OD := Lib.hid (OD.out.below h_ (by omega)); replace KD := Lib.hid (KD.out.below h_ (by omega)); replace KA := Lib.hid (KA.out.below h_ (by omega)); replace OX := Lib.hid (OX.out.below h_ (by omega)); replace KX := Lib.hid (KX.out.below h_ (by omega)); replace OB := Lib.hid (OB.out.below h_ (by omega))
        replace HB := Lib.hid (HB.out.trans (h_.mono (by omega)))
        have KB := Lib.hid K_
        clear h_ K_
        clear c_KD_0 c_KD_1 c_KD_2 c_KD_3 c_KA_0 c_KA_1 c_KA_2 c_KA_3 c_KA_4
        rw [← hg_gb] at KB
        have hgu_gb : gb < w9.heap.size := by omega
        have HG_gb := Lib.hid hg_gb
        simp only [← HG_gb.out]
        clear hg_gb
        skip
        refine (sameDesk_eq _ _ _ _ _ _ _ _ _ _ _ _ D _ OB.out.at OD.out (by omega) (by omega) hs).mono ?_
        rintro e w10 ⟨rfl, h_⟩
        have hs10 := h_.size
        replace OD := Lib.hid (OD.out.below h_ (by omega)); replace KD := Lib.hid (KD.out.below h_ (by omega)); replace KA := Lib.hid (KA.out.below h_ (by omega)); replace OX := Lib.hid (OX.out.below h_ (by omega)); replace KX := Lib.hid (KX.out.below h_ (by omega)); replace OB := Lib.hid (OB.out.below h_ (by omega)); replace KB := Lib.hid (KB.out.below h_ (by omega))
        replace HB := Lib.hid (HB.out.trans (h_.mono (by omega)))
        clear h_
        have c_KX_0 := KX.out.cell 0
        have c_KX_1 := KX.out.cell 1
        have c_KX_2 := KX.out.cell 2
        have c_KX_3 := KX.out.cell 3
        go_wp2_with fail
        clear c_KX_0 c_KX_1 c_KX_2 c_KX_3
        refine (impl_DeskValid _ _ _ _ _ _ R _ (HE.out.below HB.out) OX.out.at (by omega) hRs).mono ?_
        rintro e w11 ⟨rfl, h_⟩
        have hs11 := h_.size
        replace OD := Lib.hid (OD.out.below h_ (by omega)); replace KD := Lib.hid (KD.out.below h_ (by omega)); replace KA := Lib.hid (KA.out.below h_ (by omega)); replace OX := Lib.hid (OX.out.below h_ (by omega)); replace KX := Lib.hid (KX.out.below h_ (by omega)); replace OB := Lib.hid (OB.out.below h_ (by omega)); replace KB := Lib.hid (KB.out.below h_ (by omega))
        replace HB := Lib.hid (HB.out.trans (h_.mono (by omega)))
        rw [HVX.out]
        clear h_
        have c_KX_0 := KX.out.cell 0
        have c_KX_1 := KX.out.cell 1
        have c_KX_2 := KX.out.cell 2
        have c_KX_3 := KX.out.cell 3
        have c_KD_0 := KD.out.cell 0
        have c_KD_1 := KD.out.cell 1
        have c_KD_2 := KD.out.cell 2
        have c_KD_3 := KD.out.cell 3
        go_wp2_with fail
        clear c_KX_0 c_KX_1 c_KX_2 c_KX_3 c_KD_0 c_KD_1 c_KD_2 c_KD_3
        refine (sameDesk_ne _ _ _ _ _ _ _ _ _ _ _ _ R D _ OX.out.at OD.out (by omega) (by omega) hRs HFG.out.1.symm HFG.out.2.symm (Ne.symm HNE.out)).mono ?_
        rintro e w12 ⟨rfl, h_⟩
        have hs12 := h_.size
        replace OD := Lib.hid (OD.out.below h_ (by omega)); replace KD := Lib.hid (KD.out.below h_ (by omega)); replace KA := Lib.hid (KA.out.below h_ (by omega)); replace OX := Lib.hid (OX.out.below h_ (by omega)); replace KX := Lib.hid (KX.out.below h_ (by omega)); replace OB := Lib.hid (OB.out.below h_ (by omega)); replace KB := Lib.hid (KB.out.below h_ (by omega))
        replace HB := Lib.hid (HB.out.trans (h_.mono (by omega)))
        clear h_
        have c_KX_0 := KX.out.cell 0
        have c_KX_1 := KX.out.cell 1
        have c_KX_2 := KX.out.cell 2
        have c_KX_3 := KX.out.cell 3
        have c_KD_0 := KD.out.cell 0
        have c_KD_1 := KD.out.cell 1
        have c_KD_2 := KD.out.cell 2
        have c_KD_3 := KD.out.cell 3
        go_wp2_with fail
        clear c_KX_0 c_KX_1 c_KX_2 c_KX_3 c_KD_0 c_KD_1 c_KD_2 c_KD_3
        refine (sameInts_same _ _ _ _ _ _ D.first _ (slI_eq OX.out.at.first HFG.out.1) OD.out.first (Nat.le_trans D.first_le hs)).mono ?_
        rintro e w13 ⟨rfl, h_⟩
        have hs13 := h_.size
        replace OD := Lib.hid (OD.out.below h_ (by omega)); replace KD := Lib.hid (KD.out.below h_ (by omega)); replace KA := Lib.hid (KA.out.below h_ (by omega)); replace OX := Lib.hid (OX.out.below h_ (by omega)); replace KX := Lib.hid (KX.out.below h_ (by omega)); replace OB := Lib.hid (OB.out.below h_ (by omega)); replace KB := Lib.hid (KB.out.below h_ (by omega))
        replace HB := Lib.hid (HB.out.trans (h_.mono (by omega)))
        clear h_
        have c_KX_0 := KX.out.cell 0
        have c_KX_1 := KX.out.cell 1
        have c_KX_2 := KX.out.cell 2
        have c_KX_3 := KX.out.cell 3
        have c_KD_0 := KD.out.cell 0
        have c_KD_1 := KD.out.cell 1
        have c_KD_2 := KD.out.cell 2
        have c_KD_3 := KD.out.cell 3
        go_wp2_with fail
        clear c_KX_0 c_KX_1 c_KX_2 c_KX_3 c_KD_0 c_KD_1 c_KD_2 c_KD_3
        refine (sameInts_same _ _ _ _ _ _ D.goal _ (slI_eq OX.out.at.goal HFG.out.2) OD.out.goal (Nat.le_trans D.goal_le hs)).mono ?_
        rintro e w14 ⟨rfl, h_⟩
        have hs14 := h_.size
        replace OD := Lib.hid (OD.out.below h_ (by omega)); replace KD := Lib.hid (KD.out.below h_ (by omega)); replace KA := Lib.hid (KA.out.below h_ (by omega)); replace OX := Lib.hid (OX.out.below h_ (by omega)); replace KX := Lib.hid (KX.out.below h_ (by omega)); replace OB := Lib.hid (OB.out.below h_ (by omega)); replace KB := Lib.hid (KB.out.below h_ (by omega))
        replace HB := Lib.hid (HB.out.trans (h_.mono (by omega)))
        clear h_
        have c_KX_0 := KX.out.cell 0
        have c_KX_1 := KX.out.cell 1
        have c_KX_2 := KX.out.cell 2
        have c_KX_3 := KX.out.cell 3
        go_wp2_with fail
        clear c_KX_0 c_KX_1 c_KX_2 c_KX_3
        refine (impl_ProofOk _ _ _ _ _ _ _ _ _ R.first R.now R.made _ (HE.out.below HB.out) OX.out.at.first (Nat.le_trans R.first_le hRs) OX.out.at.now (by omega) (Nat.le_trans R.now_le hRs) OX.out.at.made (by omega)).mono ?_
        rintro e w15 ⟨rfl, h_⟩
        have hs15 := h_.size
        replace OD := Lib.hid (OD.out.below h_ (by omega)); replace KD := Lib.hid (KD.out.below h_ (by omega)); replace KA := Lib.hid (KA.out.below h_ (by omega)); replace OX := Lib.hid (OX.out.below h_ (by omega)); replace KX := Lib.hid (KX.out.below h_ (by omega)); replace OB := Lib.hid (OB.out.below h_ (by omega)); replace KB := Lib.hid (KB.out.below h_ (by omega))
        replace HB := Lib.hid (HB.out.trans (h_.mono (by omega)))
        rw [HOK.out]
        clear h_
        go_wp2
        go_ret
        exact ⟨rfl, HB.out⟩
  · go_enter Tryz.func9, Tryz.ntmps9
    go_wp2
    go_ret
    exact ⟨rfl, Below.refl _ _⟩
end Go.Proofs.YtagjpecibpejmaaGreatDoor
