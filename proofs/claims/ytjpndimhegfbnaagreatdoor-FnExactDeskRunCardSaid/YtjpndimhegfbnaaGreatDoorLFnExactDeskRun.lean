/-
  Texts of walks and plain lemmas for this seat; no condition.
-/
import Derived.Test.YtjpndimhegfbnaaGreatDoorSRunD
import Derived.Test.YtjpndimhegfbnaaGreatDoorGK
import Derived.Test.YtjpndimhegfbnaaGreatDoorGG
import Derived.Test.YtjpndimhegfbnaaGreatDoorActMarkA
import Derived.Test.YtjpndimhegfbnaaGreatDoorActEqS
import Derived.Test.YtjpndimhegfbnaaGreatDoorActS
import Derived.Deep.RegionHeldLaw
import Derived.Deep.RegionHeld3
import Derived.Deep.RegionWith
namespace Go.Proofs.YtjpndimhegfbnaaGreatDoor
open Go.RowKit

set_option maxHeartbeats 400000 in
theorem szActS_any (n : Nat) (a : Option Addr) (cap : Nat) (k r : Int) (hn : n ≤ 9223372036854775807) (hk : k ≤ 1048576) (hk2 : -1 ≤ k) (h1 : k - n < 0 → r = -1) (h2 : 0 ≤ k - n → r = k - n) (w : World) :
    Calls Tryz.prog 62 #[.slice a n cap, .int .i64 k] w fun e w' => e = .returned (.int .i64 r) ∧ w = w' := by
  by_cases h : k - n < 0
  · obtain rfl := h1 h
    go_enter Tryz.func62, Tryz.ntmps62
    go_wp2
    go_ret
    exact ⟨rfl, rfl⟩
  · obtain rfl := h2 (by omega)
    go_enter Tryz.func62, Tryz.ntmps62
    go_wp2
    go_ret
    exact ⟨rfl, rfl⟩
theorem Dsk.count_nonneg (d : Dsk) (k : Int) (h : 0 ≤ k) : ¬ d.count k < 0 := by
  unfold Dsk.count
  omega
theorem Dsk.count_bd (d : Dsk) (h : d.size ≤ 1048576) : 0 ≤ d.count 1 ∧ d.count 1 ≤ 10000000 := by
  unfold Dsk.count
  unfold Dsk.size at h
  omega
theorem deskRun_size (D : Dsk) (l : List Ac) : (deskRun D l).1.size ≤ 180 := by
  unfold deskRun
  split
  · rename_i h
    exact deskV_size (runA_valid h.1 l)
  · simp [Dsk.none, Dsk.size]
theorem eqAs_same (l : List Ac) : eqAs l l = true := by simp [eqAs]

set_option maxRecDepth 100000 in
set_option maxHeartbeats 6400000 in
theorem law_FnExactDeskRun (a b c d : Value) (D : Dsk) (v : Value) (l : List Ac) (w : World) (hx : DeskAt 0 w.heap.size w a b c d D) (hl : SlA 0 w.heap.size w v l) (hE : EnvK w) :
    Calls Tryz.prog 14 #[aggD a b c d, v] w fun e w' => e = .returned (.bool true) ∧ Below w.heap.size w w' := by
  obtain ⟨w0, hw0⟩ : ∃ w0, w0 = w.alloc (.cells #[a, b, c, d] 59) := ⟨_, rfl⟩
  have hb0 : Below w.heap.size w w0 := by rw [hw0]; exact (Below.refl _ _).alloc (Nat.le_refl _) _
  have hs0 : w0.heap.size = w.heap.size + 1 := by rw [hw0]; simp
  have K0 := Lib.hid (show Blk w.heap.size (.cells #[a, b, c, d] 59) w0 by rw [hw0]; exact Blk.new w _)
  have HX := Lib.hid (hx.below hb0 (Nat.le_refl _))
  have HL := Lib.hid (SlA.below hl hb0 (Nat.le_refl _))
  obtain ⟨la, lc, rfl, hlc1, hlc2⟩ := hl.shape
  unfold maxLen at hlc2
  have HB := Lib.hid hb0
  have HE := Lib.hid hE
  have HW0 := Lib.hid hw0
  clear hx hl hE hb0 hw0
  have k0 := K0.out.cell 0
  have k1 := K0.out.cell 1
  have k2 := K0.out.cell 2
  have k3 := K0.out.cell 3
  by_cases hm : D.size ≤ 1048576
  · obtain ⟨k, hk⟩ : ∃ k : Int, k = 1048576 - (D.size : Int) := ⟨_, rfl⟩
    have hknn : ¬ k < 0 := by omega
    have SZ := Lib.hid (szDesk_any _ _ a b c d D k w0 HX.out (by omega) (fun _ => hk))
    by_cases hml' : (l.length : Int) ≤ k
    · have hml : l.length ≤ 1048576 := by omega
      obtain ⟨k2_, hk2⟩ : ∃ k2 : Int, k2 = k - l.length := ⟨_, rfl⟩
      have hk2n : ¬ k2_ < 0 := by omega
      have SA := Lib.hid (fun wx => szActS_any l.length la lc k k2_ (by omega) (by omega) (by omega) (by omega) (fun _ => hk2) wx)
      obtain ⟨R, n, hR⟩ : ∃ R n, deskRun D l = (R, n) := ⟨_, _, rfl⟩
      have HR := Lib.hid hR
      have hRs : R.size ≤ 1048576 := by
        have h := deskRun_size D l
        rw [hR] at h
        exact Nat.le_trans h (by omega)
      have hnn : (n != n) = false := by simp
      have hEQ := eqAs_same l
      obtain ⟨hk0, hk1⟩ := Dsk.count_bd D hm
      have hk1 : D.count 1 ≤ 1000000000000 := by omega
      have hkm : ¬ (D.count 1 + 5 * (l.length : Int) < 0) := by omega
      have hneg : ¬ R.count 1 < 0 := Dsk.count_nonneg R 1 (by omega)
      have hcnt : (R.count 1 != R.count 1) = false := by simp
      clear hR hk hk2
      go_enter Tryz.func14, Tryz.ntmps14
      go_wp2_with (rw [← HW0.out])
      refine (SZ.out).mono ?_
      rintro e w1 ⟨rfl, h_⟩
      have hs1 := h_.size
      replace HX := Lib.hid (HX.out.below h_ (by omega))
      replace HL := Lib.hid (SlA.below HL.out h_ (by omega))
      replace K0 := Lib.hid (K0.out.below h_ (by omega))
      replace HB := Lib.hid (HB.out.trans (h_.mono (by omega)))
      clear h_ k0 k1 k2 k3 SZ
      go_wp2_with fail
      refine (SA.out _).mono ?_
      rintro e w_ ⟨rfl, rfl⟩
      clear SA
      have c_K0_0 := K0.out.cell 0
      have c_K0_1 := K0.out.cell 1
      have c_K0_2 := K0.out.cell 2
      have c_K0_3 := K0.out.cell 3
      go_wp2_with fail
      clear c_K0_0 c_K0_1 c_K0_2 c_K0_3
      refine (toDesk_any _ _ a b c d D _ HX.out (by omega) hm).mono ?_
      rintro e w2 ⟨s0, s1, s2, s3, rfl, h_, o_⟩
      have hs2 := h_.size
      replace HX := Lib.hid (HX.out.below h_ (by omega)); replace HL := Lib.hid (HL.out.below h_ (by omega)); replace K0 := Lib.hid (K0.out.below h_ (by omega))
      replace HB := Lib.hid (HB.out.trans (h_.mono (by omega)))
      have O1 := Lib.hid (o_)
      clear o_
      clear h_
      go_wp2_with fail
      refine (toActS_any _ _ _ l _ HL.out (by omega) hml).mono ?_
      rintro e w3 ⟨va1, rfl, h_, o_⟩
      have hs3 := h_.size
      replace HX := Lib.hid (HX.out.below h_ (by omega)); replace HL := Lib.hid (HL.out.below h_ (by omega)); replace K0 := Lib.hid (K0.out.below h_ (by omega)); replace O1 := Lib.hid (O1.out.below h_ (by omega))
      replace HB := Lib.hid (HB.out.trans (h_.mono (by omega)))
      have A1 := Lib.hid (o_)
      clear o_
      clear h_
      go_wp2_with fail
      refine (spec_DeskRun _ _ _ _ _ _ _ _ _ D l _ O1.out.at (by omega) hm A1.out.sl (by omega)).mono ?_
      rintro e w4 ⟨d0, d1, d2, d3, n1, rfl, od, hn, h_⟩
      have hs4 := h_.size
      replace HX := Lib.hid (HX.out.below h_ (by omega)); replace HL := Lib.hid (HL.out.below h_ (by omega)); replace K0 := Lib.hid (K0.out.below h_ (by omega))
      replace HB := Lib.hid (HB.out.trans (h_.mono (by omega)))
      rw [HR.out] at od hn
      obtain rfl : n = n1 := hn.symm
      have OD := Lib.hid od
      clear od
      clear h_
      clear O1
      clear A1
      obtain ⟨p0, p1, p2, p3, p4, p5, p6, p7, rfl, rfl, rfl, rfl, _⟩ := OD.out.at.shapes
      obtain ⟨gs, hg_gs⟩ : ∃ g_, g_ = w4.heap.size := ⟨_, rfl⟩
      have hgl_gs : w4.heap.size ≤ gs := by omega
      have hlt_K0 : w.heap.size < w4.heap.size := by omega
      have c_K0_0 := K0.out.cell 0
      have c_K0_1 := K0.out.cell 1
      have c_K0_2 := K0.out.cell 2
      have c_K0_3 := K0.out.cell 3
      go_wp2_with fail
      obtain ⟨w5, hw_⟩ : ∃ w_, w_ = w4.alloc (.cells #[(.slice p0 R.first.length p1), (.slice p2 R.goal.length p3), (.slice p4 R.made.length p5), (.slice p6 R.now.length p7)] 35) := ⟨_, rfl⟩
      obtain ⟨h_, K_, hs5⟩ := box_facts hw_
      simp only [← hw_]
      clear hw_
      replace HX := Lib.hid (HX.out.below h_ (by omega)); replace HL := Lib.hid (HL.out.below h_ (by omega)); replace K0 := Lib.hid (K0.out.below h_ (by omega)); replace OD := Lib.hid (OD.out.below h_ (by omega))
      replace HB := Lib.hid (HB.out.trans (h_.mono (by omega)))
      have KS := Lib.hid K_
      clear h_ K_
      clear c_K0_0 c_K0_1 c_K0_2 c_K0_3
      rw [← hg_gs] at KS
      have hgu_gs : gs < w5.heap.size := by omega
      have HG_gs := Lib.hid hg_gs
      simp only [← HG_gs.out]
      clear hg_gs
      skip
      refine (toDesk_any _ _ a b c d D _ HX.out (by omega) hm).mono ?_
      rintro e w6 ⟨x0, x1, x2, x3, rfl, h_, o_⟩
      have hs6 := h_.size
      replace HX := Lib.hid (HX.out.below h_ (by omega)); replace HL := Lib.hid (HL.out.below h_ (by omega)); replace K0 := Lib.hid (K0.out.below h_ (by omega)); replace OD := Lib.hid (OD.out.below h_ (by omega)); replace KS := Lib.hid (KS.out.below h_ (by omega))
      replace HB := Lib.hid (HB.out.trans (h_.mono (by omega)))
      have O2 := Lib.hid (o_)
      clear o_
      clear h_
      obtain ⟨x0, x1, x2, x3, x4, x5, x6, x7, rfl, rfl, rfl, rfl, _⟩ := O2.out.at.shapes
      obtain ⟨gx, hg_gx⟩ : ∃ g_, g_ = w6.heap.size := ⟨_, rfl⟩
      have hgl_gx : w6.heap.size ≤ gx := by omega
      go_wp2_with fail
      obtain ⟨w7, hw_⟩ : ∃ w_, w_ = w6.alloc (.cells #[(.slice x0 D.first.length x1), (.slice x2 D.goal.length x3), (.slice x4 D.made.length x5), (.slice x6 D.now.length x7)] 35) := ⟨_, rfl⟩
      obtain ⟨h_, K_, hs7⟩ := box_facts hw_
      simp only [← hw_]
      clear hw_
      replace HX := Lib.hid (HX.out.below h_ (by omega)); replace HL := Lib.hid (HL.out.below h_ (by omega)); replace K0 := Lib.hid (K0.out.below h_ (by omega)); replace OD := Lib.hid (OD.out.below h_ (by omega)); replace KS := Lib.hid (KS.out.below h_ (by omega)); replace O2 := Lib.hid (O2.out.below h_ (by omega))
      replace HB := Lib.hid (HB.out.trans (h_.mono (by omega)))
      have KX := Lib.hid K_
      clear h_ K_
      rw [← hg_gx] at KX
      have hgu_gx : gx < w7.heap.size := by omega
      have HG_gx := Lib.hid hg_gx
      simp only [← HG_gx.out]
      clear hg_gx
      skip
      refine (toActS_any _ _ _ l _ HL.out (by omega) hml).mono ?_
      rintro e w8 ⟨va2, rfl, h_, o_⟩
      have hs8 := h_.size
      replace HX := Lib.hid (HX.out.below h_ (by omega)); replace HL := Lib.hid (HL.out.below h_ (by omega)); replace K0 := Lib.hid (K0.out.below h_ (by omega)); replace OD := Lib.hid (OD.out.below h_ (by omega)); replace KS := Lib.hid (KS.out.below h_ (by omega)); replace O2 := Lib.hid (O2.out.below h_ (by omega)); replace KX := Lib.hid (KX.out.below h_ (by omega))
      replace HB := Lib.hid (HB.out.trans (h_.mono (by omega)))
      have A2 := Lib.hid (o_)
      clear o_
      clear h_
      have c_KX_0 := KX.out.cell 0
      have c_KX_1 := KX.out.cell 1
      have c_KX_2 := KX.out.cell 2
      have c_KX_3 := KX.out.cell 3
      go_wp2_with fail
      clear c_KX_0 c_KX_1 c_KX_2 c_KX_3
      refine (impl_DeskRun _ _ _ _ _ _ _ _ _ D l _ (HE.out.below HB.out) O2.out.at (by omega) hm A2.out.sl (by omega)).mono ?_
      rintro e w9 ⟨d0, d1, d2, d3, n1, rfl, od, hn, h_⟩
      have hs9 := h_.size
      replace HX := Lib.hid (HX.out.below h_ (by omega)); replace HL := Lib.hid (HL.out.below h_ (by omega)); replace K0 := Lib.hid (K0.out.below h_ (by omega)); replace OD := Lib.hid (OD.out.below h_ (by omega)); replace KS := Lib.hid (KS.out.below h_ (by omega)); replace O2 := Lib.hid (O2.out.below h_ (by omega)); replace KX := Lib.hid (KX.out.below h_ (by omega)); replace A2 := Lib.hid (A2.out.below h_ (by omega))
      replace HB := Lib.hid (HB.out.trans (h_.mono (by omega)))
      rw [HR.out] at od hn
      obtain rfl : n = n1 := hn.symm
      have OG := Lib.hid od
      clear od
      clear h_
      obtain ⟨y0, y1, y2, y3, y4, y5, y6, y7, rfl, rfl, rfl, rfl, _⟩ := OG.out.at.shapes
      obtain ⟨gg, hg_gg⟩ : ∃ g_, g_ = w9.heap.size := ⟨_, rfl⟩
      have hgl_gg : w9.heap.size ≤ gg := by omega
      have hlt_KS : gs < w9.heap.size := by omega
      have c_KS_0 := KS.out.cell 0
      have c_KS_1 := KS.out.cell 1
      have c_KS_2 := KS.out.cell 2
      have c_KS_3 := KS.out.cell 3
      go_wp2_with fail
      obtain ⟨w10, hw_⟩ : ∃ w_, w_ = w9.alloc (.cells #[(.slice y0 R.first.length y1), (.slice y2 R.goal.length y3), (.slice y4 R.made.length y5), (.slice y6 R.now.length y7)] 35) := ⟨_, rfl⟩
      obtain ⟨h_, K_, hs10⟩ := box_facts hw_
      simp only [← hw_]
      clear hw_
      replace HX := Lib.hid (HX.out.below h_ (by omega)); replace HL := Lib.hid (HL.out.below h_ (by omega)); replace K0 := Lib.hid (K0.out.below h_ (by omega)); replace OD := Lib.hid (OD.out.below h_ (by omega)); replace KS := Lib.hid (KS.out.below h_ (by omega)); replace O2 := Lib.hid (O2.out.below h_ (by omega)); replace KX := Lib.hid (KX.out.below h_ (by omega)); replace A2 := Lib.hid (A2.out.below h_ (by omega)); replace OG := Lib.hid (OG.out.below h_ (by omega))
      replace HB := Lib.hid (HB.out.trans (h_.mono (by omega)))
      have KG := Lib.hid K_
      clear h_ K_
      clear c_KS_0 c_KS_1 c_KS_2 c_KS_3
      rw [← hg_gg] at KG
      have hgu_gg : gg < w10.heap.size := by omega
      have HG_gg := Lib.hid hg_gg
      simp only [← HG_gg.out]
      clear hg_gg
      skip
      refine (eqDesk_same _ _ _ _ _ _ _ _ _ _ _ _ R _ OG.out.at OD.out.at (by omega) (by omega) hRs).mono ?_
      rintro e w11 ⟨rfl, h_⟩
      have hs11 := h_.size
      replace HX := Lib.hid (HX.out.below h_ (by omega)); replace HL := Lib.hid (HL.out.below h_ (by omega)); replace K0 := Lib.hid (K0.out.below h_ (by omega)); replace OD := Lib.hid (OD.out.below h_ (by omega)); replace KS := Lib.hid (KS.out.below h_ (by omega)); replace O2 := Lib.hid (O2.out.below h_ (by omega)); replace KX := Lib.hid (KX.out.below h_ (by omega)); replace A2 := Lib.hid (A2.out.below h_ (by omega)); replace OG := Lib.hid (OG.out.below h_ (by omega)); replace KG := Lib.hid (KG.out.below h_ (by omega))
      replace HB := Lib.hid (HB.out.trans (h_.mono (by omega)))
      clear h_
      go_wp2_with fail
      have hd_ : Below w11.heap.size w11 w11.drew := Below.drew (Below.refl _ _)
      have hdz_ : w11.drew.heap.size = w11.heap.size := rfl
      have hS_ : w11.drew.cell? ⟨w.heap.size, 0, none⟩ = some a ∧ w11.drew.cell? ⟨w.heap.size, 1, none⟩ = some b ∧ w11.drew.cell? ⟨w.heap.size, 2, none⟩ = some c ∧ w11.drew.cell? ⟨w.heap.size, 3, none⟩ = some d ∧ w11.drew.cell? ⟨gx, 0, none⟩ = some (.slice x0 D.first.length x1) ∧ w11.drew.cell? ⟨gx, 1, none⟩ = some (.slice x2 D.goal.length x3) ∧ w11.drew.cell? ⟨gx, 2, none⟩ = some (.slice x4 D.made.length x5) ∧ w11.drew.cell? ⟨gx, 3, none⟩ = some (.slice x6 D.now.length x7) := ⟨K0.out.cell 0, K0.out.cell 1, K0.out.cell 2, K0.out.cell 3, KX.out.cell 0, KX.out.cell 1, KX.out.cell 2, KX.out.cell 3⟩
      have HXd := Lib.hid (HX.out.below hd_ (by omega))
      go_region_held3 (fun w' => w'.cell? ⟨w.heap.size, 0, none⟩ = some a ∧ w'.cell? ⟨w.heap.size, 1, none⟩ = some b ∧ w'.cell? ⟨w.heap.size, 2, none⟩ = some c ∧ w'.cell? ⟨w.heap.size, 3, none⟩ = some d ∧ w'.cell? ⟨gx, 0, none⟩ = some (.slice x0 D.first.length x1) ∧ w'.cell? ⟨gx, 1, none⟩ = some (.slice x2 D.goal.length x3) ∧ w'.cell? ⟨gx, 2, none⟩ = some (.slice x4 D.made.length x5) ∧ w'.cell? ⟨gx, 3, none⟩ = some (.slice x6 D.now.length x7)) (first | assumption | go_keep) (first
        | (go_at_call 51; refine (toDesk_any _ _ a b c d D _ HXd.out (by omega) hm).mono ?_; rintro e5_ w12 ⟨r0_, r1_, r2_, r3_, rfl, hb_, o_⟩; (have hz_ := hb_.size); (have HBa := Lib.hid (hd_.trans (hb_.mono (by omega)))); (have K0a := Lib.hid (K0.out.below HBa.out (by omega))); (have KXa := Lib.hid (KX.out.below HBa.out (by omega))); (have OXa := Lib.hid (O2.out.below HBa.out (by omega))); (have ORa := Lib.hid o_); (have hSa_ : w12.cell? ⟨w.heap.size, 0, none⟩ = some a ∧ w12.cell? ⟨w.heap.size, 1, none⟩ = some b ∧ w12.cell? ⟨w.heap.size, 2, none⟩ = some c ∧ w12.cell? ⟨w.heap.size, 3, none⟩ = some d ∧ w12.cell? ⟨gx, 0, none⟩ = some (.slice x0 D.first.length x1) ∧ w12.cell? ⟨gx, 1, none⟩ = some (.slice x2 D.goal.length x3) ∧ w12.cell? ⟨gx, 2, none⟩ = some (.slice x4 D.made.length x5) ∧ w12.cell? ⟨gx, 3, none⟩ = some (.slice x6 D.now.length x7) := ⟨K0a.out.cell 0, K0a.out.cell 1, K0a.out.cell 2, K0a.out.cell 3, KXa.out.cell 0, KXa.out.cell 1, KXa.out.cell 2, KXa.out.cell 3⟩); clear hb_ o_)
        | (go_at_call 52; refine (eqDesk_same _ _ _ _ _ _ _ _ _ _ _ _ D _ OXa.out.at ORa.out.at (by omega) (by omega) hm).mono ?_; rintro e6_ w13 ⟨rfl, hb_⟩; (have hz2_ := hb_.size); (have HBb := Lib.hid (HBa.out.trans (hb_.mono (by omega)))); (have hSb_ : w13.cell? ⟨w.heap.size, 0, none⟩ = some a ∧ w13.cell? ⟨w.heap.size, 1, none⟩ = some b ∧ w13.cell? ⟨w.heap.size, 2, none⟩ = some c ∧ w13.cell? ⟨w.heap.size, 3, none⟩ = some d ∧ w13.cell? ⟨gx, 0, none⟩ = some (.slice x0 D.first.length x1) ∧ w13.cell? ⟨gx, 1, none⟩ = some (.slice x2 D.goal.length x3) ∧ w13.cell? ⟨gx, 2, none⟩ = some (.slice x4 D.made.length x5) ∧ w13.cell? ⟨gx, 3, none⟩ = some (.slice x6 D.now.length x7) := ⟨(K0a.out.below hb_ (by omega)).cell 0, (K0a.out.below hb_ (by omega)).cell 1, (K0a.out.below hb_ (by omega)).cell 2, (K0a.out.below hb_ (by omega)).cell 3, (KXa.out.below hb_ (by omega)).cell 0, (KXa.out.below hb_ (by omega)).cell 1, (KXa.out.below hb_ (by omega)).cell 2, (KXa.out.below hb_ (by omega)).cell 3⟩); clear hb_))
      have HBq := Lib.hid (HBb.out.mono (by omega : w11.heap.size ≤ w11.heap.size))
      have hsq_ := HBb.out.size
      replace HX := Lib.hid (HX.out.below HBb.out (by omega))
      replace HL := Lib.hid (HL.out.below HBb.out (by omega))
      replace K0 := Lib.hid (K0.out.below HBb.out (by omega))
      replace OD := Lib.hid (OD.out.below HBb.out (by omega))
      replace KS := Lib.hid (KS.out.below HBb.out (by omega))
      replace O2 := Lib.hid (O2.out.below HBb.out (by omega))
      replace KX := Lib.hid (KX.out.below HBb.out (by omega))
      replace A2 := Lib.hid (A2.out.below HBb.out (by omega))
      replace OG := Lib.hid (OG.out.below HBb.out (by omega))
      replace KG := Lib.hid (KG.out.below HBb.out (by omega))
      replace HB := Lib.hid (HB.out.trans (HBb.out.mono (by omega)))
      clear HBq HBb hSb_ hSa_ hS_ hd_ hdz_ HXd HBa K0a KXa OXa ORa
      go_wp2_with fail
      refine (toActS_any _ _ _ l _ HL.out (by omega) hml).mono ?_
      rintro e w14 ⟨va3, rfl, h_, o_⟩
      have hs14 := h_.size
      replace HX := Lib.hid (HX.out.below h_ (by omega)); replace HL := Lib.hid (HL.out.below h_ (by omega)); replace K0 := Lib.hid (K0.out.below h_ (by omega)); replace OD := Lib.hid (OD.out.below h_ (by omega)); replace KS := Lib.hid (KS.out.below h_ (by omega)); replace O2 := Lib.hid (O2.out.below h_ (by omega)); replace KX := Lib.hid (KX.out.below h_ (by omega)); replace A2 := Lib.hid (A2.out.below h_ (by omega)); replace OG := Lib.hid (OG.out.below h_ (by omega)); replace KG := Lib.hid (KG.out.below h_ (by omega))
      replace HB := Lib.hid (HB.out.trans (h_.mono (by omega)))
      have A3 := Lib.hid (o_)
      clear o_
      clear h_
      go_wp2_with fail
      refine (eqActS_any _ _ _ _ _ _ l l _ A2.out.sl A3.out.sl (by omega) (by omega) hml).mono ?_
      rintro e w15 ⟨rfl, h_⟩
      have hs15 := h_.size
      replace HX := Lib.hid (HX.out.below h_ (by omega)); replace HL := Lib.hid (HL.out.below h_ (by omega)); replace K0 := Lib.hid (K0.out.below h_ (by omega)); replace OD := Lib.hid (OD.out.below h_ (by omega)); replace KS := Lib.hid (KS.out.below h_ (by omega)); replace O2 := Lib.hid (O2.out.below h_ (by omega)); replace KX := Lib.hid (KX.out.below h_ (by omega)); replace A2 := Lib.hid (A2.out.below h_ (by omega)); replace OG := Lib.hid (OG.out.below h_ (by omega)); replace KG := Lib.hid (KG.out.below h_ (by omega))
      replace HB := Lib.hid (HB.out.trans (h_.mono (by omega)))
      clear h_
      clear A3
      have c_KX_0 := KX.out.cell 0
      have c_KX_1 := KX.out.cell 1
      have c_KX_2 := KX.out.cell 2
      have c_KX_3 := KX.out.cell 3
      go_wp2_with fail
      clear c_KX_0 c_KX_1 c_KX_2 c_KX_3
      refine (markDesk_any _ _ _ _ _ _ D 1 _ O2.out (by omega) hm (by omega) (by omega)).mono ?_
      rintro e w16 ⟨rfl, h_, o_⟩
      have hs16 := h_.size
      replace HX := Lib.hid (HX.out.outside h_ (by omega)); replace HL := Lib.hid (HL.out.outside h_ (by omega)); replace K0 := Lib.hid (K0.out.outside h_ (by omega)); replace OD := Lib.hid (OD.out.outside h_ (by omega)); replace KS := Lib.hid (KS.out.outside h_ (by omega)); replace KX := Lib.hid (KX.out.outside h_ (by omega)); replace A2 := Lib.hid (A2.out.outside h_ (by omega)); replace OG := Lib.hid (OG.out.outside h_ (by omega)); replace KG := Lib.hid (KG.out.outside h_ (by omega))
      replace HB := Lib.hid (Below.outside HB.out h_ (by omega) (by omega))
      clear O2 o_
      clear h_
      go_wp2_with fail
      refine (markActS_any _ _ _ l (D.count 1) _ A2.out hml hk0 hk1).mono ?_
      rintro e w17 ⟨rfl, h_, o_⟩
      have hs17 := h_.size
      replace HX := Lib.hid (HX.out.outside h_ (by omega)); replace HL := Lib.hid (HL.out.outside h_ (by omega)); replace K0 := Lib.hid (K0.out.outside h_ (by omega)); replace OD := Lib.hid (OD.out.outside h_ (by omega)); replace KS := Lib.hid (KS.out.outside h_ (by omega)); replace KX := Lib.hid (KX.out.outside h_ (by omega)); replace OG := Lib.hid (OG.out.outside h_ (by omega)); replace KG := Lib.hid (KG.out.outside h_ (by omega))
      replace HB := Lib.hid (Below.outside HB.out h_ (by omega) (by omega))
      clear A2 o_
      clear h_
      have c_KG_0 := KG.out.cell 0
      have c_KG_1 := KG.out.cell 1
      have c_KG_2 := KG.out.cell 2
      have c_KG_3 := KG.out.cell 3
      have c_KS_0 := KS.out.cell 0
      have c_KS_1 := KS.out.cell 1
      have c_KS_2 := KS.out.cell 2
      have c_KS_3 := KS.out.cell 3
      go_wp2_with fail
      clear c_KG_0 c_KG_1 c_KG_2 c_KG_3 c_KS_0 c_KS_1 c_KS_2 c_KS_3
      refine (eqDesk_same _ _ _ _ _ _ _ _ _ _ _ _ R _ OG.out.at OD.out.at (by omega) (by omega) hRs).mono ?_
      rintro e w18 ⟨rfl, h_⟩
      have hs18 := h_.size
      replace HX := Lib.hid (HX.out.below h_ (by omega)); replace HL := Lib.hid (HL.out.below h_ (by omega)); replace K0 := Lib.hid (K0.out.below h_ (by omega)); replace OD := Lib.hid (OD.out.below h_ (by omega)); replace KS := Lib.hid (KS.out.below h_ (by omega)); replace KX := Lib.hid (KX.out.below h_ (by omega)); replace OG := Lib.hid (OG.out.below h_ (by omega)); replace KG := Lib.hid (KG.out.below h_ (by omega))
      replace HB := Lib.hid (HB.out.trans (h_.mono (by omega)))
      clear h_
      have c_KG_0 := KG.out.cell 0
      have c_KG_1 := KG.out.cell 1
      have c_KG_2 := KG.out.cell 2
      have c_KG_3 := KG.out.cell 3
      go_wp2_with fail
      clear c_KG_0 c_KG_1 c_KG_2 c_KG_3
      refine (markDesk_any _ _ _ _ _ _ R 1 _ OG.out (by omega) hRs (by omega) (by omega)).mono ?_
      rintro e w19 ⟨rfl, h_, o_⟩
      have hs19 := h_.size
      replace HX := Lib.hid (HX.out.outside h_ (by omega)); replace HL := Lib.hid (HL.out.outside h_ (by omega)); replace K0 := Lib.hid (K0.out.outside h_ (by omega)); replace OD := Lib.hid (OD.out.outside h_ (by omega)); replace KS := Lib.hid (KS.out.outside h_ (by omega)); replace KX := Lib.hid (KX.out.outside h_ (by omega)); replace KG := Lib.hid (KG.out.outside h_ (by omega))
      replace HB := Lib.hid (Below.outside HB.out h_ (by omega) (by omega))
      replace OG := Lib.hid (o_)
      clear o_
      clear h_
      have c_KG_0 := KG.out.cell 0
      have c_KG_1 := KG.out.cell 1
      have c_KG_2 := KG.out.cell 2
      have c_KG_3 := KG.out.cell 3
      go_wp2_with fail
      clear c_KG_0 c_KG_1 c_KG_2 c_KG_3
      refine (heldDesk_any _ _ _ _ _ _ R 1 _ OG.out.at (by omega) hRs (by omega) (by omega)).mono ?_
      rintro e w20 ⟨rfl, h_⟩
      have hs20 := h_.size
      replace HX := Lib.hid (HX.out.below h_ (by omega)); replace HL := Lib.hid (HL.out.below h_ (by omega)); replace K0 := Lib.hid (K0.out.below h_ (by omega)); replace OD := Lib.hid (OD.out.below h_ (by omega)); replace KS := Lib.hid (KS.out.below h_ (by omega)); replace KX := Lib.hid (KX.out.below h_ (by omega)); replace OG := Lib.hid (OG.out.below h_ (by omega)); replace KG := Lib.hid (KG.out.below h_ (by omega))
      replace HB := Lib.hid (HB.out.trans (h_.mono (by omega)))
      clear h_
      have c_K0_0 := K0.out.cell 0
      have c_K0_1 := K0.out.cell 1
      have c_K0_2 := K0.out.cell 2
      have c_K0_3 := K0.out.cell 3
      go_wp2_with fail
      clear c_K0_0 c_K0_1 c_K0_2 c_K0_3
      refine (toDesk_any _ _ a b c d D _ HX.out (by omega) hm).mono ?_
      rintro e w21 ⟨s0, s1, s2, s3, rfl, h_, o_⟩
      have hs21 := h_.size
      replace HX := Lib.hid (HX.out.below h_ (by omega)); replace HL := Lib.hid (HL.out.below h_ (by omega)); replace K0 := Lib.hid (K0.out.below h_ (by omega)); replace OD := Lib.hid (OD.out.below h_ (by omega)); replace KS := Lib.hid (KS.out.below h_ (by omega)); replace KX := Lib.hid (KX.out.below h_ (by omega)); replace OG := Lib.hid (OG.out.below h_ (by omega)); replace KG := Lib.hid (KG.out.below h_ (by omega))
      replace HB := Lib.hid (HB.out.trans (h_.mono (by omega)))
      have O1 := Lib.hid (o_)
      clear o_
      clear h_
      go_wp2_with fail
      refine (toActS_any _ _ _ l _ HL.out (by omega) hml).mono ?_
      rintro e w22 ⟨va1, rfl, h_, o_⟩
      have hs22 := h_.size
      replace HX := Lib.hid (HX.out.below h_ (by omega)); replace HL := Lib.hid (HL.out.below h_ (by omega)); replace K0 := Lib.hid (K0.out.below h_ (by omega)); replace OD := Lib.hid (OD.out.below h_ (by omega)); replace KS := Lib.hid (KS.out.below h_ (by omega)); replace KX := Lib.hid (KX.out.below h_ (by omega)); replace OG := Lib.hid (OG.out.below h_ (by omega)); replace KG := Lib.hid (KG.out.below h_ (by omega)); replace O1 := Lib.hid (O1.out.below h_ (by omega))
      replace HB := Lib.hid (HB.out.trans (h_.mono (by omega)))
      have A1 := Lib.hid (o_)
      clear o_
      clear h_
      go_wp2_with fail
      refine (impl_DeskRun _ _ _ _ _ _ _ _ _ D l _ (HE.out.below HB.out) O1.out.at (by omega) hm A1.out.sl (by omega)).mono ?_
      rintro e w23 ⟨d0, d1, d2, d3, n1, rfl, od, hn, h_⟩
      have hs23 := h_.size
      replace HX := Lib.hid (HX.out.below h_ (by omega)); replace HL := Lib.hid (HL.out.below h_ (by omega)); replace K0 := Lib.hid (K0.out.below h_ (by omega)); replace OD := Lib.hid (OD.out.below h_ (by omega)); replace KS := Lib.hid (KS.out.below h_ (by omega)); replace KX := Lib.hid (KX.out.below h_ (by omega)); replace OG := Lib.hid (OG.out.below h_ (by omega)); replace KG := Lib.hid (KG.out.below h_ (by omega))
      replace HB := Lib.hid (HB.out.trans (h_.mono (by omega)))
      rw [HR.out] at od hn
      obtain rfl : n = n1 := hn.symm
      have OH := Lib.hid od
      clear od
      clear h_
      clear O1
      clear A1
      obtain ⟨z0, z1, z2, z3, z4, z5, z6, z7, rfl, rfl, rfl, rfl, _⟩ := OH.out.at.shapes
      obtain ⟨gh, hg_gh⟩ : ∃ g_, g_ = w23.heap.size := ⟨_, rfl⟩
      have hgl_gh : w23.heap.size ≤ gh := by omega
      have hlt_KS : gs < w23.heap.size := by omega
      have c_KS_0 := KS.out.cell 0
      have c_KS_1 := KS.out.cell 1
      have c_KS_2 := KS.out.cell 2
      have c_KS_3 := KS.out.cell 3
      go_wp2_with fail
      obtain ⟨w24, hw_⟩ : ∃ w_, w_ = w23.alloc (.cells #[(.slice z0 R.first.length z1), (.slice z2 R.goal.length z3), (.slice z4 R.made.length z5), (.slice z6 R.now.length z7)] 35) := ⟨_, rfl⟩
      obtain ⟨h_, K_, hs24⟩ := box_facts hw_
      simp only [← hw_]
      clear hw_
      replace HX := Lib.hid (HX.out.below h_ (by omega)); replace HL := Lib.hid (HL.out.below h_ (by omega)); replace K0 := Lib.hid (K0.out.below h_ (by omega)); replace OD := Lib.hid (OD.out.below h_ (by omega)); replace KS := Lib.hid (KS.out.below h_ (by omega)); replace KX := Lib.hid (KX.out.below h_ (by omega)); replace OG := Lib.hid (OG.out.below h_ (by omega)); replace KG := Lib.hid (KG.out.below h_ (by omega)); replace OH := Lib.hid (OH.out.below h_ (by omega))
      replace HB := Lib.hid (HB.out.trans (h_.mono (by omega)))
      have KH := Lib.hid K_
      clear h_ K_
      clear c_KS_0 c_KS_1 c_KS_2 c_KS_3
      rw [← hg_gh] at KH
      have hgu_gh : gh < w24.heap.size := by omega
      have HG_gh := Lib.hid hg_gh
      simp only [← HG_gh.out]
      clear hg_gh
      skip
      refine (eqDesk_same _ _ _ _ _ _ _ _ _ _ _ _ R _ OH.out.at OD.out.at (by omega) (by omega) hRs).mono ?_
      rintro e w25 ⟨rfl, h_⟩
      have hs25 := h_.size
      replace HX := Lib.hid (HX.out.below h_ (by omega)); replace HL := Lib.hid (HL.out.below h_ (by omega)); replace K0 := Lib.hid (K0.out.below h_ (by omega)); replace OD := Lib.hid (OD.out.below h_ (by omega)); replace KS := Lib.hid (KS.out.below h_ (by omega)); replace KX := Lib.hid (KX.out.below h_ (by omega)); replace OG := Lib.hid (OG.out.below h_ (by omega)); replace KG := Lib.hid (KG.out.below h_ (by omega)); replace OH := Lib.hid (OH.out.below h_ (by omega)); replace KH := Lib.hid (KH.out.below h_ (by omega))
      replace HB := Lib.hid (HB.out.trans (h_.mono (by omega)))
      clear h_
      have c_KG_0 := KG.out.cell 0
      have c_KG_1 := KG.out.cell 1
      have c_KG_2 := KG.out.cell 2
      have c_KG_3 := KG.out.cell 3
      go_wp2_with fail
      clear c_KG_0 c_KG_1 c_KG_2 c_KG_3
      refine (heldDesk_any _ _ _ _ _ _ R 1 _ OG.out.at (by omega) hRs (by omega) (by omega)).mono ?_
      rintro e w26 ⟨rfl, h_⟩
      have hs26 := h_.size
      replace HX := Lib.hid (HX.out.below h_ (by omega)); replace HL := Lib.hid (HL.out.below h_ (by omega)); replace K0 := Lib.hid (K0.out.below h_ (by omega)); replace OD := Lib.hid (OD.out.below h_ (by omega)); replace KS := Lib.hid (KS.out.below h_ (by omega)); replace KX := Lib.hid (KX.out.below h_ (by omega)); replace OG := Lib.hid (OG.out.below h_ (by omega)); replace KG := Lib.hid (KG.out.below h_ (by omega)); replace OH := Lib.hid (OH.out.below h_ (by omega)); replace KH := Lib.hid (KH.out.below h_ (by omega))
      replace HB := Lib.hid (HB.out.trans (h_.mono (by omega)))
      clear h_
      go_wp2
      go_ret
      exact ⟨rfl, HB.out⟩
    · have SA := Lib.hid (fun wx => szActS_any l.length la lc k (-1) (by omega) (by omega) (by omega) (fun _ => rfl) (by omega) wx)
      clear hk
      go_enter Tryz.func14, Tryz.ntmps14
      go_wp2_with (rw [← HW0.out])
      refine (SZ.out).mono ?_
      rintro e w1 ⟨rfl, h_⟩
      replace HB := Lib.hid (HB.out.trans (h_.mono (by omega)))
      clear h_ SZ
      go_wp2_with fail
      refine (SA.out _).mono ?_
      rintro e w_ ⟨rfl, rfl⟩
      go_wp2
      go_ret
      exact ⟨rfl, HB.out⟩
  · go_enter Tryz.func14, Tryz.ntmps14
    go_wp2_with (rw [← HW0.out])
    refine (szDesk_any _ _ a b c d D (-1) _ HX.out (fun _ => rfl) (by omega)).mono ?_
    rintro e_ w_ ⟨rfl, h_⟩
    go_wp2
    go_ret
    exact ⟨rfl, HB.out.trans (h_.mono (by omega))⟩
end Go.Proofs.YtjpndimhegfbnaaGreatDoor
