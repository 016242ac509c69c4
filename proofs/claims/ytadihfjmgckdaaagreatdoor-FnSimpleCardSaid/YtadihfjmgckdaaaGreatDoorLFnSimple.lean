/-
  Texts of walks and plain lemmas for this seat; no condition.
-/
import Derived.Test.YtadihfjmgckdaaaGreatDoorGM
import Derived.Test.YtadihfjmgckdaaaGreatDoorLawQ
import Derived.Test.YtadihfjmgckdaaaGreatDoorGN
import Derived.Test.YtadihfjmgckdaaaGreatDoorIRows11
import Derived.Test.YtadihfjmgckdaaaGreatDoorDModelled
import Derived.Deep.RegionHeld3
import Derived.Deep.DeepCutAuto
import Derived.Deep.DrawnRows
namespace Go.Proofs.YtadihfjmgckdaaaGreatDoor
open Go.RowKit
set_option linter.unusedVariables false

set_option maxHeartbeats 1600000 in
theorem DrawSimple_any (v : Value) (cs : List Int) (w : World) (h : SlB 0 w.heap.size w v cs) :
    Calls Tryz.prog 9 #[v] w (RetV fun v w' => ∃ xs : List Int, SlI 0 w'.heap.size w' v xs ∧ xs.length ≤ 44 ∧ Below w.heap.size w w') := by
  go_enter Tryz.func9, Tryz.ntmps9
  go_wp2_with fail
  refine (l20Open_any _ cs _ h).mono ?_
  rintro e w1 ⟨_, rfl, g, rfl, hg, hb, hr⟩
  have HB := Lib.hid hb
  have HR := Lib.hid hr
  have hs1 := hb.size
  have hg1 := hr.lt
  clear hr hb h
  go_wp2_with fail
  refine (l20Bound_any g 0 9 _ HR.out (by omega) (by omega)).mono ?_
  rintro e w2 ⟨v2, rfl, xs, hx, hl, ho, hr⟩
  replace HB := Lib.hid (Below.outside HB.out ho (by omega) (by omega))
  have HX := Lib.hid hx
  have hs2 := ho.size
  clear hx ho hr
  go_wp2
  go_ret
  exact RetV.mk _ rfl ⟨xs, HX.out.wide (Nat.zero_le _) (Nat.le_refl _), hl, HB.out⟩

set_option maxRecDepth 100000 in
set_option maxHeartbeats 6400000 in
theorem law_FnSimple (v : Value) (cs : List Int) (vb : Value) (ds : List Int) (w : World) (hx : SlB 0 w.heap.size w v cs) (hy : SlB 0 w.heap.size w vb ds) (hE : EnvK w) :
    Calls Tryz.prog 3 #[v, vb] w fun e w' => e = .returned (.bool true) ∧ Below w.heap.size w w' := by
  have HX := Lib.hid hx
  have HD := Lib.hid hy
  have HE := Lib.hid hE
  obtain ⟨⟨a, cap, rfl, hcap, hcm, _⟩, _⟩ := hx
  obtain ⟨⟨b, cap2, rfl, hcap2, hcm2, _⟩, _⟩ := hy
  unfold maxLen at hcm hcm2
  clear hE
  by_cases hm : cs.length ≤ 1048576
  · by_cases hm2 : ds.length ≤ 1048576
    · go_enter Tryz.func3, Tryz.ntmps3
      go_wp2_with fail
      refine (DrawSimple_any _ cs _ HX.out).mono ?_
      rintro e w1 ⟨v1, rfl, xs, h1, hl, hb⟩
      have HB := Lib.hid hb
      have hs1 := hb.size
      replace HX := Lib.hid h1
      replace HD := Lib.hid (SlB.wide (SlB.below HD.out hb (Nat.le_refl _)) hb.size)
      obtain ⟨xa, xc, rfl, _, _⟩ := Sl.shape h1
      clear hb h1
      have hyl := simpE_le xs
      obtain ⟨ys, hys⟩ : ∃ ys, simpE xs = ys := ⟨_, rfl⟩
      rw [hys] at hyl
      have HYS := Lib.hid hys
      clear hys
      go_wp2_with fail
      refine (impl_Simple _ xs w1 (HE.out.below HB.out) (SlI.rd HX.out (Nat.le_refl _)) (by omega)).mono ?_
      rintro e w2 ⟨v2, rfl, h_, o_⟩
      rw [HYS.out] at o_
      have hs2 := h_.size
      replace HX := Lib.hid (HX.out.below h_ (Nat.le_refl _))
      replace HD := Lib.hid (SlB.below HD.out h_ (by omega))
      replace HB := Lib.hid (HB.out.trans (h_.mono (by omega)))
      have OY := Lib.hid o_.sl
      obtain ⟨ya, yc, rfl, _⟩ := Own.open o_
      clear h_ o_
      go_wp2_with fail
      refine (spec_Simple _ xs w2 (SlI.rd HX.out (by omega)) (by omega)).mono ?_
      rintro e w3 ⟨v3, rfl, h_, o_⟩
      rw [HYS.out] at o_
      have hs3 := h_.size
      replace HX := Lib.hid (HX.out.below h_ (by omega))
      replace HD := Lib.hid (SlB.below HD.out h_ (by omega))
      replace OY := Lib.hid (OY.out.below h_ (by omega))
      replace HB := Lib.hid (HB.out.trans (h_.mono (by omega)))
      have OS := Lib.hid o_.sl
      obtain ⟨za, zc, rfl, _⟩ := Own.open o_
      clear h_ o_
      go_wp2_with fail
      refine (sameInts_same _ _ _ _ _ _ ys _ OY.out OS.out (by omega)).mono ?_
      rintro e w4 ⟨rfl, h_⟩
      have hs4 := h_.size
      replace HX := Lib.hid (HX.out.below h_ (by omega))
      replace HD := Lib.hid (SlB.below HD.out h_ (by omega))
      replace OY := Lib.hid (OY.out.below h_ (by omega))
      replace HB := Lib.hid (HB.out.trans (h_.mono (by omega)))
      clear h_ OS
      go_wp2_with fail
      refine (spec_KatValid _ _ _ xs _ HX.out (by omega)).mono ?_
      rintro e _ ⟨rfl, rfl⟩
      cases hk : katV xs
      · obtain rfl : ys = [] := by rw [← HYS.out, simpE, hk]; rfl
        clear hk
        go_wp2_with fail
        refine (alive_any _).mono ?_
        rintro e _ ⟨rfl, rfl⟩
        go_wp2
        go_ret
        exact ⟨rfl, HB.out⟩
      · have HKY := Lib.hid (show katV ys = true by rw [← HYS.out]; exact simpE_kat hk)
        have HID := Lib.hid (show simpE ys = ys by rw [← HYS.out]; exact simpE_idem hk)
        have HRV := Lib.hid (fun M : Mo => show rowsV M xs = rowsV M ys by rw [← HYS.out]; exact rowsV_simp hk)
        clear hk
        go_wp2_with fail
        refine (DrawRowsOf_any _ ds _ (SlB.wide HD.out (by omega))).mono ?_
        rintro e w5 ⟨⟨n, p, q, acts⟩, va, ve, es, rfl, hM, hV, hle, h_⟩
        have hs5 := h_.size
        replace HX := Lib.hid (HX.out.below h_ (by omega))
        replace OY := Lib.hid (OY.out.below h_ (by omega))
        replace HB := Lib.hid (HB.out.trans (h_.mono (by omega)))
        have HM := Lib.hid hM
        obtain ⟨ma, mc, rfl, _, _⟩ := hM.1.shape
        obtain ⟨ea, ec, rfl, _, _⟩ := Sl.shape hV
        clear h_ hM hV
        obtain ⟨w6, hw6⟩ : ∃ x, x = w5.alloc (.cells #[.int .i64 n, .int .i64 p, .int .i64 q, .slice ma acts.length mc] 31) := ⟨_, rfl⟩
        obtain ⟨h_, KM_, hs6⟩ := box_facts2 hw6
        replace HX := Lib.hid (HX.out.below h_ (by omega))
        replace OY := Lib.hid (OY.out.below h_ (by omega))
        replace HM := Lib.hid (HM.out.below h_)
        replace HB := Lib.hid (HB.out.trans (h_.mono (by omega)))
        have KM := Lib.hid KM_
        have HW6 := Lib.hid hw6
        obtain ⟨gM, hgM⟩ : ∃ x, x = w5.heap.size := ⟨_, rfl⟩
        rw [← hgM] at KM
        have hgM6 : gM < w6.heap.size := by omega
        clear h_ KM_ hw6
        have hyl2 : (ys.length : Int) ≤ (xs.length : Int) := by omega
        go_upto_region 10 with fail
        simp only [← HW6.out, ← hgM]
        clear HW6 hgM
        have bd_ : Below w6.heap.size w6 w6.drew := Below.drew (Below.refl _ _)
        have hdz : w6.drew.heap.size = w6.heap.size := rfl
        replace HX := Lib.hid (HX.out.below bd_ (by omega))
        replace OY := Lib.hid (OY.out.below bd_ (by omega))
        replace HM := Lib.hid (HM.out.below bd_)
        replace KM := Lib.hid (KM.out.below bd_ (by omega))
        replace HB := Lib.hid (HB.out.trans (bd_.mono (by omega)))
        have k0 := KM.out.cell 0
        have k1 := KM.out.cell 1
        have k2 := KM.out.cell 2
        have k3 := KM.out.cell 3
        have hrl := rowsV_len ⟨n, p, q, acts⟩ ys
        have hrx : rowsV ⟨n, p, q, acts⟩ xs = rowsV ⟨n, p, q, acts⟩ ys := HRV.out _
        obtain ⟨rs, hrs⟩ : ∃ rs, rowsV ⟨n, p, q, acts⟩ ys = rs := ⟨_, rfl⟩
        rw [hrs] at hrl hrx
        have HRX := Lib.hid hrx
        have HRS := Lib.hid hrs
        clear hrx hrs
        go_region_held3 (fun w' => w'.cell? ⟨gM, 0, none⟩ = some (.int .i64 n) ∧ w'.cell? ⟨gM, 1, none⟩ = some (.int .i64 p) ∧ w'.cell? ⟨gM, 2, none⟩ = some (.int .i64 q) ∧ w'.cell? ⟨gM, 3, none⟩ = some (.slice ma acts.length mc)) (first | with_reducible assumption | go_keep) (first
          | ((have g_ := OT); go_at_call 11; refine (sameInts_same _ _ _ _ _ _ rs _ OR.out OT.out (by omega)).mono ?_; rintro e12 w12 ⟨rfl, h_⟩; (have hs12 := h_.size); (have k12_ := K11.out.below h_ (by omega)); (have m0 := k12_.cell 0); (have m1 := k12_.cell 1); (have m2 := k12_.cell 2); (have m3 := k12_.cell 3); (have HB12 := Lib.hid (HB11.out.trans (h_.mono (by omega)))); clear h_ k12_ g_)
          | ((have g_ := OR0); go_at_call 17; refine (impl_RowsOf _ _ _ _ ⟨n, p, q, acts⟩ _ _ ys _ HM10.out.1 (by omega) (by have := HM10.out.2.1; simp only at this ⊢; omega) (fun x h => by have := HM10.out.2.2 x h; omega) OY10.out (by omega) (by omega)).mono ?_; rintro e11 w11 ⟨v11, rfl, o_, h_⟩; rw [HRS.out] at o_; (have hs11 := h_.size); obtain ⟨ta, tc, rfl, _⟩ := Own.open o_; (have k11_ := K10.out.below h_ (by omega)); (have l0 := k11_.cell 0); (have l1 := k11_.cell 1); (have l2 := k11_.cell 2); (have l3 := k11_.cell 3); (have K11 := Lib.hid k11_); (have OR := Lib.hid (OR0.out.below h_ (by omega))); (have OT := Lib.hid o_.sl); (have HB11 := Lib.hid (HB10.out.trans (h_.mono (by omega)))); clear h_ k11_ g_ o_)
          | ((have g_ := HB9); go_at_call 17; refine (impl_RowsOf _ _ _ _ ⟨n, p, q, acts⟩ _ _ xs _ HM9.out.1 (by omega) (by have := HM9.out.2.1; simp only at this ⊢; omega) (fun x h => by have := HM9.out.2.2 x h; omega) HX9.out (by omega) (by omega)).mono ?_; rintro e10 w10 ⟨v10, rfl, o_, h_⟩; rw [HRX.out] at o_; (have hs10 := h_.size); obtain ⟨ra, rc, rfl, _⟩ := Own.open o_; (have k10_ := K9.out.below h_ (by omega)); (have j0 := k10_.cell 0); (have j1 := k10_.cell 1); (have j2 := k10_.cell 2); (have j3 := k10_.cell 3); (have K10 := Lib.hid k10_); (have OR0 := Lib.hid o_.sl); (have HM10 := Lib.hid (HM9.out.below (h_.mono (by omega)))); (have OY10 := Lib.hid (OY9.out.below h_ (by omega))); (have HB10 := Lib.hid (HB9.out.trans (h_.mono (by omega)))); clear h_ k10_ g_ o_)
          | ((have g_ := OZ); go_at_call 11; refine (sameInts_same _ _ _ _ _ _ ys _ OZ.out OY8.out (by omega)).mono ?_; rintro e9 w9 ⟨rfl, h_⟩; (have hs9 := h_.size); (have k9_ := K8.out.below h_ (by omega)); (have i0 := k9_.cell 0); (have i1 := k9_.cell 1); (have i2 := k9_.cell 2); (have i3 := k9_.cell 3); (have K9 := Lib.hid k9_); (have HX9 := Lib.hid (HX8.out.below h_ (by omega))); (have OY9 := Lib.hid (OY8.out.below h_ (by omega))); (have HM9 := Lib.hid (HM8.out.below (h_.mono (by omega)))); (have HB9 := Lib.hid (HB8.out.trans (h_.mono (by omega)))); clear h_ k9_ g_)
          | (go_at_call 10; refine (impl_Simple _ ys w6.drew (HE.out.below HB.out) (SlI.rd OY.out (by omega)) (by omega)).mono ?_; rintro e8 w8 ⟨v8, rfl, h_, o_⟩; rw [HID.out] at o_; (have hs8 := h_.size); obtain ⟨ua, uc, rfl, _⟩ := Own.open o_; (have k8_ := KM.out.below h_ (by omega)); (have h0 := k8_.cell 0); (have h1 := k8_.cell 1); (have h2 := k8_.cell 2); (have h3 := k8_.cell 3); (have K8 := Lib.hid k8_); (have OZ := Lib.hid o_.sl); (have HX8 := Lib.hid (HX.out.below h_ (by omega))); (have OY8 := Lib.hid (OY.out.below h_ (by omega))); (have HM8 := Lib.hid (HM.out.below (h_.mono (by omega)))); (have HB8 := Lib.hid (HB.out.trans (h_.mono (by omega)))); clear h_ k8_ o_)
          | (go_at_call 16; refine (impl_KatValid _ _ _ ys _ OY.out (by omega)).mono ?_; rintro e7 _ ⟨rfl, rfl⟩; rw [HKY.out]))
        go_wp2
        go_ret
        exact ⟨rfl, HB12.out⟩
    · go_enter Tryz.func3, Tryz.ntmps3
      go_wp2
      go_ret
      exact ⟨rfl, Below.refl _ _⟩
  · go_enter Tryz.func3, Tryz.ntmps3
    go_wp2
    go_ret
    exact ⟨rfl, Below.refl _ _⟩
end Go.Proofs.YtadihfjmgckdaaaGreatDoor
