/-
  Texts of walks and plain lemmas for this seat; no condition.
-/
import Derived.Test.YtadihfjmgckdaaaGreatDoorDDesk
import Derived.Test.YtadihfjmgckdaaaGreatDoorGK
import Derived.Test.YtadihfjmgckdaaaGreatDoorGN
import Derived.Test.YtadihfjmgckdaaaGreatDoorGO
import Derived.Deep.RegionHeld3
import Derived.Deep.DeepCutAuto
import Derived.Deep.DrawnRows
namespace Go.Proofs.YtadihfjmgckdaaaGreatDoor
open Go.RowKit
set_option linter.unusedVariables false

set_option maxHeartbeats 1600000 in
theorem DrawDeskValid_any (v : Value) (xs : List Int) (w : World) (h : SlB 0 w.heap.size w v xs) :
    Calls Tryz.prog 25 #[v] w (RetD fun a b c_ d w' => ∃ D : Dsk, DeskAt 0 w'.heap.size w' a b c_ d D ∧ D.size ≤ 1000 ∧ Below w.heap.size w w') := by
  obtain ⟨w0, hw0⟩ : ∃ w0, w0 = w.alloc (.cells #[.slice none 0 0, .slice none 0 0, .slice none 0 0, .slice none 0 0] 38) := ⟨_, rfl⟩
  obtain ⟨hb0, KS_, hs0⟩ := box_facts2 hw0
  have KS := Lib.hid KS_
  have HX : Hid (SlB 0 w0.heap.size w0 v xs) := Lib.hid ⟨(h.1.below hb0 (Nat.le_refl _)).wide (Nat.le_refl _) hb0.size, h.2⟩
  have HW := Lib.hid hb0
  have HW0 := Lib.hid hw0
  clear h hb0 KS_ hw0
  go_enter Tryz.func25, Tryz.ntmps25
  go_upto_region 1 with (rw [← HW0.out])
  try rw [← HW0.out]
  clear HW0
  go_wp2_with fail
  refine (l20Open_any _ xs _ HX.out).mono ?_
  rintro e w1 ⟨_, rfl, g, rfl, hg, hb, hr⟩
  have hs1 := hb.size
  replace HW := Lib.hid (HW.out.trans (hb.mono (by omega)))
  replace KS := Lib.hid (KS.out.below hb (by omega))
  have HR := Lib.hid hr
  have hgl1 := hr.lt
  clear hb hr HX
  go_wp2_with fail
  refine (l20Desk_any g 0 2 _ HR.out (by omega) (by omega)).mono ?_
  rintro e w2 ⟨y0, y1, y2, y3, rfl, D, od_, hds, h_, r_⟩
  have hs2 := h_.size
  replace HW := Lib.hid (Below.outside HW.out h_ (by omega) (by omega))
  replace KS := Lib.hid (KS.out.outside h_ (.inl (by omega)))
  have OD := Lib.hid od_
  clear h_ r_ od_ HR
  obtain ⟨p0, r0, p1, r1, p2, r2, p3, r3, i0, i1, i2, i3, l0, l1, l2, l3⟩ := OD.out.shapes
  subst i0 i1 i2 i3
  clear l0 l1 l2 l3
  have c0 := KS.out.cell 0
  have c1 := KS.out.cell 1
  have c2 := KS.out.cell 2
  have c3 := KS.out.cell 3
  have f0 := KS.out.free 0
  have f1 := KS.out.free 1
  have f2 := KS.out.free 2
  have f3 := KS.out.free 3
  have KZ := KS.out.set4 (.slice p0 D.first.length r0) (.slice p1 D.goal.length r1) (.slice p2 D.made.length r2) (.slice p3 D.now.length r3)
  have HO := Outside.set4 w.heap.size w2 (.slice p0 D.first.length r0) (.slice p1 D.goal.length r1) (.slice p2 D.made.length r2) (.slice p3 D.now.length r3)
  have HKZ := Lib.hid (And.intro KZ HO)
  clear KZ HO
  go_wp2
  generalize ((((w2.setCell ⟨w.heap.size, 0, none⟩ (.slice p0 D.first.length r0)).setCell ⟨w.heap.size, 1, none⟩ (.slice p1 D.goal.length r1)).setCell ⟨w.heap.size, 2, none⟩ (.slice p2 D.made.length r2)).setCell ⟨w.heap.size, 3, none⟩ (.slice p3 D.now.length r3)) = wz at HKZ ⊢
  have q0 := HKZ.out.1.cell 0
  have q1 := HKZ.out.1.cell 1
  have q2 := HKZ.out.1.cell 2
  have q3 := HKZ.out.1.cell 3
  refine bodyPost_ret (v := .agg #[.slice p0 D.first.length r0, .slice p1 D.goal.length r1, .slice p2 D.made.length r2, .slice p3 D.now.length r3]) (by simp [results, Tryz.results25, go_sem, q0, q1, q2, q3]) rfl ?_
  have ho := HKZ.out.2
  refine ⟨_, _, _, _, rfl, D, ?_, hds, Below.outside HW.out ho (Nat.le_refl _) (by omega)⟩
  have h1 := OD.out.outside ho (.inr (by omega))
  exact DeskAt.wide h1 (Nat.zero_le _) ho.size

set_option maxHeartbeats 1600000 in
theorem DrawDeskDone_any (v : Value) (xs : List Int) (w : World) (h : SlB 0 w.heap.size w v xs) :
    Calls Tryz.prog 27 #[v] w (RetD fun a b c_ d w' => ∃ D : Dsk, DeskAt 0 w'.heap.size w' a b c_ d D ∧ D.size ≤ 1000 ∧ Below w.heap.size w w') := by
  obtain ⟨w0, hw0⟩ : ∃ w0, w0 = w.alloc (.cells #[.slice none 0 0, .slice none 0 0, .slice none 0 0, .slice none 0 0] 38) := ⟨_, rfl⟩
  obtain ⟨hb0, KS_, hs0⟩ := box_facts2 hw0
  have KS := Lib.hid KS_
  have HX : Hid (SlB 0 w0.heap.size w0 v xs) := Lib.hid ⟨(h.1.below hb0 (Nat.le_refl _)).wide (Nat.le_refl _) hb0.size, h.2⟩
  have HW := Lib.hid hb0
  have HW0 := Lib.hid hw0
  clear h hb0 KS_ hw0
  go_enter Tryz.func27, Tryz.ntmps27
  go_upto_region 1 with (rw [← HW0.out])
  try rw [← HW0.out]
  clear HW0
  go_wp2_with fail
  refine (l20Open_any _ xs _ HX.out).mono ?_
  rintro e w1 ⟨_, rfl, g, rfl, hg, hb, hr⟩
  have hs1 := hb.size
  replace HW := Lib.hid (HW.out.trans (hb.mono (by omega)))
  replace KS := Lib.hid (KS.out.below hb (by omega))
  have HR := Lib.hid hr
  have hgl1 := hr.lt
  clear hb hr HX
  go_wp2_with fail
  refine (l20Desk_any g 0 9 _ HR.out (by omega) (by omega)).mono ?_
  rintro e w2 ⟨y0, y1, y2, y3, rfl, D, od_, hds, h_, r_⟩
  have hs2 := h_.size
  replace HW := Lib.hid (Below.outside HW.out h_ (by omega) (by omega))
  replace KS := Lib.hid (KS.out.outside h_ (.inl (by omega)))
  have OD := Lib.hid od_
  clear h_ r_ od_ HR
  obtain ⟨p0, r0, p1, r1, p2, r2, p3, r3, i0, i1, i2, i3, l0, l1, l2, l3⟩ := OD.out.shapes
  subst i0 i1 i2 i3
  clear l0 l1 l2 l3
  have c0 := KS.out.cell 0
  have c1 := KS.out.cell 1
  have c2 := KS.out.cell 2
  have c3 := KS.out.cell 3
  have f0 := KS.out.free 0
  have f1 := KS.out.free 1
  have f2 := KS.out.free 2
  have f3 := KS.out.free 3
  have KZ := KS.out.set4 (.slice p0 D.first.length r0) (.slice p1 D.goal.length r1) (.slice p2 D.made.length r2) (.slice p3 D.now.length r3)
  have HO := Outside.set4 w.heap.size w2 (.slice p0 D.first.length r0) (.slice p1 D.goal.length r1) (.slice p2 D.made.length r2) (.slice p3 D.now.length r3)
  have HKZ := Lib.hid (And.intro KZ HO)
  clear KZ HO
  go_wp2
  generalize ((((w2.setCell ⟨w.heap.size, 0, none⟩ (.slice p0 D.first.length r0)).setCell ⟨w.heap.size, 1, none⟩ (.slice p1 D.goal.length r1)).setCell ⟨w.heap.size, 2, none⟩ (.slice p2 D.made.length r2)).setCell ⟨w.heap.size, 3, none⟩ (.slice p3 D.now.length r3)) = wz at HKZ ⊢
  have q0 := HKZ.out.1.cell 0
  have q1 := HKZ.out.1.cell 1
  have q2 := HKZ.out.1.cell 2
  have q3 := HKZ.out.1.cell 3
  refine bodyPost_ret (v := .agg #[.slice p0 D.first.length r0, .slice p1 D.goal.length r1, .slice p2 D.made.length r2, .slice p3 D.now.length r3]) (by simp [results, Tryz.results27, go_sem, q0, q1, q2, q3]) rfl ?_
  have ho := HKZ.out.2
  refine ⟨_, _, _, _, rfl, D, ?_, hds, Below.outside HW.out ho (Nat.le_refl _) (by omega)⟩
  have h1 := OD.out.outside ho (.inr (by omega))
  exact DeskAt.wide h1 (Nat.zero_le _) ho.size
end Go.Proofs.YtadihfjmgckdaaaGreatDoor
