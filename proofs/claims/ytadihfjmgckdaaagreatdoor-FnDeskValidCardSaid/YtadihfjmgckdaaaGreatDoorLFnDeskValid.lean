/-
  Texts of walks and plain lemmas for this seat; no condition.
-/
import Derived.Test.YtadihfjmgckdaaaGreatDoorDDeskV
import Derived.Test.YtadihfjmgckdaaaGreatDoorGK
import Derived.Test.YtadihfjmgckdaaaGreatDoorGO
import Derived.Test.YtadihfjmgckdaaaGreatDoorIDiffer
import Derived.Test.YtadihfjmgckdaaaGreatDoorGN
import Derived.Test.YtadihfjmgckdaaaGreatDoorGS
import Derived.Deep.RegionHeld3
import Derived.Deep.DeepCutAuto
import Derived.Deep.DrawnRows
namespace Go.Proofs.YtadihfjmgckdaaaGreatDoor
open Go.RowKit
set_option linter.unusedVariables false

theorem deskV_none : deskV Dsk.none = false := by
  unfold deskV
  rw [show proofV Dsk.none.first Dsk.none.made = none by unfold proofV Dsk.none; rw [show katV [] = false by decide]; rfl]
theorem deskV_bare {D : Dsk} (h : deskV D = true) : deskV ⟨D.first, D.goal, [], D.first⟩ = true := by
  obtain ⟨h1, h2, _, _, _⟩ := deskV_parts h
  unfold deskV
  rw [show proofV (Dsk.mk D.first D.goal [] D.first).first (Dsk.mk D.first D.goal [] D.first).made = some D.first by
    unfold proofV
    simp only [h1, List.length_nil, Nat.zero_le, decide_true, Bool.and_self, if_true]
    rfl]
  simp only [h2, Bool.true_and]
  exact eqL_same _
theorem DeskAt.none (lo hi : Nat) (w : World) : DeskAt lo hi w (.slice none 0 0) (.slice none 0 0) (.slice none 0 0) (.slice none 0 0) Dsk.none :=
  ⟨(Own.nil 1 _ _ 3 _).sl, (Own.nil 1 _ _ 3 _).sl, (Own.nil 3 _ _ 56 _).sl, (Own.nil 1 _ _ 3 _).sl⟩

set_option maxRecDepth 100000 in
set_option maxHeartbeats 6400000 in
theorem law_FnDeskValid (v : Value) (cs : List Int) (w : World) (hx : SlB 0 w.heap.size w v cs) (hE : EnvK w) :
    Calls Tryz.prog 5 #[v] w fun e w' => e = .returned (.bool true) ∧ Below w.heap.size w w' := by
  have HX := Lib.hid hx
  have HE := Lib.hid hE
  obtain ⟨⟨a, cap, rfl, hcap, hcm, _⟩, _⟩ := hx
  unfold maxLen at hcm
  clear hE
  by_cases hm : cs.length ≤ 1048576
  · go_enter Tryz.func5, Tryz.ntmps5
    go_wp2_with fail
    refine (DrawDeskValid_any _ cs _ HX.out).mono ?_
    rintro e w1 ⟨e0, e1, e2, e3, rfl, D, hd, hds, hb⟩
    have hs1 := hb.size
    obtain ⟨p0, p1, p2, p3, p4, p5, p6, p7, rfl, rfl, rfl, rfl, _⟩ := hd.shapes
    obtain ⟨w2, hw2⟩ : ∃ w2, w2 = w1.alloc (.cells #[(.slice p0 D.first.length p1), (.slice p2 D.goal.length p3), (.slice p4 D.made.length p5), (.slice p6 D.now.length p7)] 38) := ⟨_, rfl⟩
    obtain ⟨hb2, KD_, hs2⟩ := box_facts2 hw2
    have KD := Lib.hid KD_
    have OD := Lib.hid (hd.below hb2 (Nat.le_refl _))
    have HB := Lib.hid (hb.trans (hb2.mono hb.size))
    obtain ⟨gd, hgd⟩ : ∃ gd, gd = w1.heap.size := ⟨_, rfl⟩
    rw [← hgd] at KD
    have hgl : gd < w2.heap.size := by omega
    have k0 := KD.out.cell 0
    have k1 := KD.out.cell 1
    have k2 := KD.out.cell 2
    have k3 := KD.out.cell 3
    clear hd hb hb2 KD_
    rw [hw2, hgd] at k0 k1 k2 k3
    go_wp2_with fail
    simp only [← hw2, ← hgd]
    clear hw2 hgd k0 k1 k2 k3
    refine (impl_DeskValid _ _ _ _ _ _ D w2 (HE.out.below HB.out) OD.out (by omega) (by omega)).mono ?_
    rintro e w3 ⟨rfl, h_⟩
    have hs3 := h_.size
    replace OD := Lib.hid (OD.out.below h_ (by omega)); replace KD := Lib.hid (KD.out.below h_ (by omega))
    replace HB := Lib.hid (HB.out.trans (h_.mono (by omega)))
    have k0 := KD.out.cell 0
    have k1 := KD.out.cell 1
    have k2 := KD.out.cell 2
    have k3 := KD.out.cell 3
    clear h_
    have hbb : (deskV D != deskV D) = false := by simp
    go_wp2_with fail
    refine (spec_DeskValid _ _ _ _ _ _ D w3 OD.out (by omega) (by omega)).mono ?_
    rintro e w4 ⟨rfl, h_⟩
    have hs4 := h_.size
    replace OD := Lib.hid (OD.out.below h_ (by omega)); replace KD := Lib.hid (KD.out.below h_ (by omega))
    replace HB := Lib.hid (HB.out.trans (h_.mono (by omega)))
    clear h_ k0 k1 k2 k3
    cases hv : deskV D
    · rw [hv] at hbb
      go_wp2_with fail
      refine (impl_DeskValid 0 0 _ _ _ _ Dsk.none w4 (HE.out.below HB.out) (DeskAt.none _ _ _) (Nat.zero_le _) (by decide)).mono ?_
      rintro e w5 ⟨rfl, h_⟩
      replace HB := Lib.hid (HB.out.trans (h_.mono (by omega)))
      rw [deskV_none]
      go_wp2_with fail
      refine (alive_any _).mono ?_
      rintro e _ ⟨rfl, rfl⟩
      go_wp2
      go_ret
      exact ⟨rfl, HB.out⟩
    · rw [hv] at hbb
      have HBV := Lib.hid (deskV_bare hv)
      have HAP := Lib.hid (apart_proof (deskV_parts hv).2.2.2.2)
      have k0 := KD.out.cell 0
      have k1 := KD.out.cell 1
      have k2 := KD.out.cell 2
      have k3 := KD.out.cell 3
      obtain ⟨w5, hw5⟩ : ∃ w5, w5 = w4.alloc (.cells #[(.slice p0 D.first.length p1), (.slice p2 D.goal.length p3), .slice none 0 0, (.slice p0 D.first.length p1)] 38) := ⟨_, rfl⟩
      obtain ⟨hb5, KB_, hs5⟩ := box_facts2 hw5
      have HD5 := Lib.hid (OD.out.below hb5 (by omega))
      have HK5 := Lib.hid (KD.out.below hb5 (by omega))
      have j0 := KB_.cell 0
      have j1 := KB_.cell 1
      have j2 := KB_.cell 2
      have j3 := KB_.cell 3
      rw [hw5] at j0 j1 j2 j3
      replace HB := Lib.hid (HB.out.trans (hb5.mono (by omega)))
      have HBA : Hid (DeskAt 0 w1.heap.size w5 (.slice p0 D.first.length p1) (.slice p2 D.goal.length p3) (.slice none 0 0) (.slice p0 D.first.length p1) ⟨D.first, D.goal, [], D.first⟩) := Lib.hid ⟨HD5.out.first, HD5.out.goal, (Own.nil 3 _ _ 56 _).sl, HD5.out.first⟩
      clear hv hb5 KB_
      go_wp2_with fail
      simp only [← hw5]
      clear hw5 j0 j1 j2 j3 k0 k1 k2 k3
      refine (impl_DeskValid _ _ _ _ _ _ ⟨D.first, D.goal, [], D.first⟩ w5 (HE.out.below HB.out) HBA.out (by omega) (by unfold Dsk.size at hds ⊢; simp; omega)).mono ?_
      rintro e w6 ⟨rfl, h_⟩
      have hs6 := h_.size
      rw [HBV.out]
      replace HB := Lib.hid (HB.out.trans (h_.mono (by omega)))
      have HD6 := Lib.hid (HD5.out.below h_ (by omega))
      have k6 := HK5.out.below h_ (by omega)
      have k0 := k6.cell 0
      have k1 := k6.cell 1
      have k2 := k6.cell 2
      have k3 := k6.cell 3
      clear h_ k6
      go_wp2_with fail
      refine (equal_any _ _ _ _ _ _ D.first D.now w6 HD6.out.first HD6.out.now (by omega) (by omega) (by unfold Dsk.size at hds; omega) (by unfold Dsk.size at hds; omega)).mono ?_
      rintro e w7 ⟨i, rfl, hi, h_⟩
      replace HB := Lib.hid (HB.out.trans (h_.mono (by omega)))
      have hi0 : (i != 0) = true := by
        have : i ≠ 0 := fun h => HAP.out (hi h)
        simpa using this
      clear hi h_
      go_wp2
      go_ret
      exact ⟨rfl, HB.out⟩
  · go_enter Tryz.func5, Tryz.ntmps5
    go_wp2
    go_ret
    exact ⟨rfl, Below.refl _ _⟩
end Go.Proofs.YtadihfjmgckdaaaGreatDoor
