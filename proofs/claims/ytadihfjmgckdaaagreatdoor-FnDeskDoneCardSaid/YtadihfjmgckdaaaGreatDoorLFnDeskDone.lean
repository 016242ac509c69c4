/-
  Texts of walks and plain lemmas for this seat; no condition.
-/
import Derived.Test.YtadihfjmgckdaaaGreatDoorDDeskV
import Derived.Test.YtadihfjmgckdaaaGreatDoorGK
import Derived.Test.YtadihfjmgckdaaaGreatDoorGO
import Derived.Test.YtadihfjmgckdaaaGreatDoorIDiffer
import Derived.Test.YtadihfjmgckdaaaGreatDoorGN
import Derived.Test.YtadihfjmgckdaaaGreatDoorGS
import Derived.Test.YtadihfjmgckdaaaGreatDoorGI
import Derived.Deep.RegionHeld3
import Derived.Deep.DeepCutAuto
import Derived.Deep.DrawnRows
namespace Go.Proofs.YtadihfjmgckdaaaGreatDoor
open Go.RowKit
set_option linter.unusedVariables false

set_option maxRecDepth 100000 in
set_option maxHeartbeats 6400000 in
theorem law_FnDeskDone (v : Value) (cs : List Int) (w : World) (hx : SlB 0 w.heap.size w v cs) (hE : EnvK w) :
    Calls Tryz.prog 6 #[v] w fun e w' => e = .returned (.bool true) ∧ Below w.heap.size w w' := by
  have HX := Lib.hid hx
  have HE := Lib.hid hE
  obtain ⟨⟨a, cap, rfl, hcap, hcm, _⟩, _⟩ := hx
  unfold maxLen at hcm
  clear hE
  by_cases hm : cs.length ≤ 1048576
  · go_enter Tryz.func6, Tryz.ntmps6
    go_wp2_with fail
    refine (DrawDeskDone_any _ cs _ HX.out).mono ?_
    rintro e w1 ⟨e0, e1, e2, e3, rfl, D, hd, hds, hb⟩
    have hs1 := hb.size
    obtain ⟨p0, p1, p2, p3, p4, p5, p6, p7, rfl, rfl, rfl, rfl, _⟩ := hd.shapes
    obtain ⟨w2, hw2⟩ : ∃ w2, w2 = w1.alloc (.cells #[(.slice p0 D.first.length p1), (.slice p2 D.goal.length p3), (.slice p4 D.made.length p5), (.slice p6 D.now.length p7)] 38) := ⟨_, rfl⟩
    obtain ⟨hb2, KD_, hs2⟩ := box_facts2 hw2
    have KD := Lib.hid KD_
    have OD := Lib.hid (hd.below hb2 (Nat.le_refl _))
    have HB := Lib.hid (hb.trans (hb2.mono hb.size))
    obtain ⟨gd, hgd⟩ : ∃ gd, gd = w1.heap.size := ⟨_, rfl⟩
    rw [← hgd] at KD
    have hgl : gd < w2.heap.size := by omega
    have k0 := KD.out.cell 0
    have k1 := KD.out.cell 1
    have k2 := KD.out.cell 2
    have k3 := KD.out.cell 3
    clear hd hb hb2 KD_
    rw [hw2, hgd] at k0 k1 k2 k3
    go_wp2_with fail
    simp only [← hw2, ← hgd]
    clear hw2 hgd k0 k1 k2 k3
    obtain ⟨b, hbd⟩ : ∃ b, b = (deskV D && eqL D.now D.goal) := ⟨_, rfl⟩
    have HBD := Lib.hid hbd
    clear hbd
    refine (impl_DeskDone _ _ _ _ _ _ D w2 (HE.out.below HB.out) OD.out (by omega) (by omega)).mono ?_
    rintro e w3 ⟨rfl, h_⟩
    rw [← HBD.out]
    have hs3 := h_.size
    replace OD := Lib.hid (OD.out.below h_ (by omega)); replace KD := Lib.hid (KD.out.below h_ (by omega))
    replace HB := Lib.hid (HB.out.trans (h_.mono (by omega)))
    have k0 := KD.out.cell 0
    have k1 := KD.out.cell 1
    have k2 := KD.out.cell 2
    have k3 := KD.out.cell 3
    clear h_
    have hbb : (b != b) = false := by simp
    go_wp2_with fail
    refine (spec_DeskDone _ _ _ _ _ _ D w3 OD.out (by omega) (by omega)).mono ?_
    rintro e w4 ⟨rfl, h_⟩
    rw [← HBD.out]
    have hs4 := h_.size
    replace OD := Lib.hid (OD.out.below h_ (by omega)); replace KD := Lib.hid (KD.out.below h_ (by omega))
    replace HB := Lib.hid (HB.out.trans (h_.mono (by omega)))
    clear h_ k0 k1 k2 k3
    have k0 := KD.out.cell 0
    have k1 := KD.out.cell 1
    have k2 := KD.out.cell 2
    have k3 := KD.out.cell 3
    go_wp2_with fail
    refine (impl_DeskValid _ _ _ _ _ _ D w4 (HE.out.below HB.out) OD.out (by omega) (by omega)).mono ?_
    rintro e w5 ⟨rfl, h_⟩
    have hs5 := h_.size
    replace OD := Lib.hid (OD.out.below h_ (by omega)); replace KD := Lib.hid (KD.out.below h_ (by omega))
    replace HB := Lib.hid (HB.out.trans (h_.mono (by omega)))
    clear h_ k0 k1 k2 k3
    have k0 := KD.out.cell 0
    have k1 := KD.out.cell 1
    have k2 := KD.out.cell 2
    have k3 := KD.out.cell 3
    cases hv : deskV D
    · obtain rfl : b = false := by rw [HBD.out, hv]; rfl
      clear hv
      go_wp2_with fail
      refine (alive_any _).mono ?_
      rintro e _ ⟨rfl, rfl⟩
      go_wp2
      go_ret
      exact ⟨rfl, HB.out⟩
    · have HPR := Lib.hid (deskV_parts hv).2.2.2.2
      have HOK := Lib.hid (show okV D.first D.goal D.made = b by rw [HBD.out, hv, Bool.true_and, okV, HPR.out])
      have HEQ := Lib.hid (fun h : b = true => show D.now = D.goal from by
        have h2 := HBD.out
        rw [h, hv, Bool.true_and, eqL_iff] at h2
        exact of_decide_eq_true h2.symm)
      clear hv
      go_wp2_with fail
      refine (impl_ProofOk _ _ _ _ _ _ _ _ _ D.first D.goal D.made w5 (HE.out.below HB.out) OD.out.first (by unfold Dsk.size at hds; omega) OD.out.goal (by omega) (by unfold Dsk.size at hds; omega) OD.out.made (by unfold Dsk.size at hds; omega)).mono ?_
      rintro e w6 ⟨rfl, h_⟩
      rw [HOK.out]
      have hs6 := h_.size
      replace OD := Lib.hid (OD.out.below h_ (by omega)); replace KD := Lib.hid (KD.out.below h_ (by omega))
      replace HB := Lib.hid (HB.out.trans (h_.mono (by omega)))
      clear h_ k0 k1 k2 k3
      have k0 := KD.out.cell 0
      have k1 := KD.out.cell 1
      cases b
      · go_wp2_with fail
        refine (alive_any _).mono ?_
        rintro e _ ⟨rfl, rfl⟩
        go_wp2
        go_ret
        exact ⟨rfl, HB.out⟩
      · have HNG := Lib.hid (HEQ.out rfl)
        have HAP := Lib.hid (show ¬ Apart D.first D.goal from apart_proof (by rw [← HNG.out]; exact HPR.out))
        go_wp2_with fail
        refine (equal_any _ _ _ _ _ _ D.first D.goal w6 OD.out.first OD.out.goal (by omega) (by omega) (by unfold Dsk.size at hds; omega) (by unfold Dsk.size at hds; omega)).mono ?_
        rintro e w7 ⟨i, rfl, hi, h_⟩
        replace HB := Lib.hid (HB.out.trans (h_.mono (by omega)))
        have hi0 : (i != 0) = true := by
          have : i ≠ 0 := fun h => HAP.out (hi h)
          simpa using this
        clear hi h_
        go_wp2_with fail
        refine (alive_any _).mono ?_
        rintro e _ ⟨rfl, rfl⟩
        go_wp2
        go_ret
        exact ⟨rfl, HB.out⟩
  · go_enter Tryz.func6, Tryz.ntmps6
    go_wp2
    go_ret
    exact ⟨rfl, Below.refl _ _⟩
end Go.Proofs.YtadihfjmgckdaaaGreatDoor
