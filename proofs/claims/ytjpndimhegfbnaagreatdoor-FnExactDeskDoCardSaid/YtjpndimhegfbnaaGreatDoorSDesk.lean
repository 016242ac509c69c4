/-
  Texts of walks and plain lemmas for this seat; no condition.
-/
import Derived.Test.YtjpndimhegfbnaaGreatDoorIDesk
import Derived.Test.YtjpndimhegfbnaaGreatDoorGK
import Derived.Test.YtjpndimhegfbnaaGreatDoorGI
import Derived.Test.YtjpndimhegfbnaaGreatDoorGH
import Derived.Test.YtjpndimhegfbnaaGreatDoorGJ
namespace Go.Proofs.YtjpndimhegfbnaaGreatDoor
open Go.RowKit

set_option maxRecDepth 100000 in
set_option maxHeartbeats 3200000 in
theorem spec_l10With (lo hi lo' hi' : Nat) (a b c d vm : Value) (D : Dsk) (ms : List Mv) (w : World) (hx : DeskAt lo hi w a b c d D) (hh : hi ≤ w.heap.size) (hm : D.size ≤ 1048576) (hms : SlM lo' hi' w vm ms) (hh' : hi' ≤ w.heap.size) (hml : ms.length ≤ 1048576) (hk : (katV D.first && katV D.goal) = true) :
    Calls Tryz.prog 91 #[aggD a b c d, vm] w (DeskRet w ⟨D.first, D.goal, ms, (proofV D.first ms).getD []⟩) := by
  unfold Dsk.size at hm
  obtain ⟨w0, hw0⟩ : ∃ w0, w0 = (w.alloc (.cells #[a, b, c, d] 35)).alloc (.cells #[.slice none 0 0, .slice none 0 0, .slice none 0 0, .slice none 0 0] 35) := ⟨_, rfl⟩
  have HB : Hid (Below w.heap.size w w0) := by rw [hw0]; exact Lib.hid (((Below.refl _ _).alloc (Nat.le_refl _) _).alloc (by simp) _)
  have K1 : Hid (Blk w.heap.size (.cells #[a, b, c, d] 35) w0) := by
    rw [hw0]
    exact Lib.hid ((Blk.new w _).below ((Below.refl (w.alloc _).heap.size _).alloc (Nat.le_refl _) _) (by simp))
  have K2 : Hid (Blk (w.heap.size + 1) (.cells #[.slice none 0 0, .slice none 0 0, .slice none 0 0, .slice none 0 0] 35) w0) := by
    have h := Blk.new (w.alloc (.cells #[a, b, c, d] 35)) (.cells #[.slice none 0 0, .slice none 0 0, .slice none 0 0, .slice none 0 0] 35)
    rw [alloc_size] at h
    rw [hw0]; exact Lib.hid h
  have hs0 : w0.heap.size = w.heap.size + 2 := by rw [hw0]; simp
  have HX := Lib.hid (hx.below HB.out hh)
  have HMS := Lib.hid (Sl.below hms HB.out hh')
  have HW0 := Lib.hid hw0
  obtain ⟨ma, mc, rfl, hmc, hmm⟩ := hms.shape
  clear hx hms hw0
  have d0 := K1.out.cell 0
  have d1 := K1.out.cell 1
  go_enter Tryz.func91, Tryz.ntmps91
  go_wp2_with (rw [← HW0.out])
  refine (spec_DeskNew _ _ _ _ a b D.first D.goal w0 HX.out.first HX.out.goal (by omega) (by omega) (by omega) (by omega)).mono ?_
  rintro e1 w1 ⟨x0, x1, x2, x3, rfl, ho1, hb1⟩
  rw [deskNew, if_pos hk] at ho1
  obtain ⟨p0, q0, p1, q1, p2, q2, p3, q3, e0, e1, e2, e3⟩ := ho1.open
  change x0 = .slice p0 D.first.length q0 at e0
  change x1 = .slice p1 D.goal.length q1 at e1
  change x2 = .slice p2 0 q2 at e2
  change x3 = .slice p3 D.first.length q3 at e3
  subst e0 e1 e2 e3
  have hs1 := hb1.size
  replace HB := Lib.hid (HB.out.trans (hb1.mono (by omega)))
  replace K1 := Lib.hid (K1.out.below hb1 K1.out.lt)
  replace K2 := Lib.hid (K2.out.below hb1 K2.out.lt)
  replace HX := Lib.hid (HX.out.below hb1 (by omega))
  replace HMS := Lib.hid (Sl.below HMS.out hb1 (by omega))
  have HO1 := Lib.hid ho1
  clear hb1 ho1 d0 d1
  have d0 := K1.out.cell 0
  have f0 := K2.out.free 0
  have f1 := K2.out.free 1
  have f2 := K2.out.free 2
  have f3 := K2.out.free 3
  have c0 := K2.out.cell 0
  have c1 := K2.out.cell 1
  have c2 := K2.out.cell 2
  have c3 := K2.out.cell 3
  obtain ⟨wo, hwo⟩ : ∃ wo, wo = w1.alloc (.cells #[.slice p0 D.first.length q0, .slice p1 D.goal.length q1, .slice p2 0 q2, .slice p3 D.first.length q3] 35) := ⟨_, rfl⟩
  have KO : Hid (Blk w1.heap.size (.cells #[.slice p0 D.first.length q0, .slice p1 D.goal.length q1, .slice p2 0 q2, .slice p3 D.first.length q3] 35) wo) := by rw [hwo]; exact Lib.hid (Blk.new w1 _)
  have hbo : Below w1.heap.size w1 wo := by rw [hwo]; exact (Below.refl _ _).alloc (Nat.le_refl _) _
  have hso : wo.heap.size = w1.heap.size + 1 := by rw [hwo]; simp
  have HWO := Lib.hid hwo
  clear hwo
  have OE : Hid (Own 3 (w1.heap.size + 1) (w1.heap.size + 2) 66 (wo.alloc (.cells #[] 66)) (.slice (some ⟨w1.heap.size + 1, 0, none⟩) 0 0) 0 []) := by
    have h := Own.lit 3 66 wo [] 0 (by omega) rfl
    rw [hso] at h
    exact Lib.hid h
  have hbe : Below w1.heap.size w1 (wo.alloc (.cells #[] 66)) := hbo.alloc (by omega) _
  have HME := Lib.hid (Sl.below HMS.out hbe (by omega))
  have hze : (wo.alloc (.cells #[] 66)).heap.size = w1.heap.size + 2 := by simp; omega
  go_wp2_with (at_builtin; go_loud (rw [← HWO.out]; refine wpList_app_sl rfl _ _ 33 rfl 66 (.agg #[.int .i64 0, .bool false, .int .i64 0]) 3 24 Tryz.underlying33 info_mv rfl (by decide) (by decide) rfl OE.out rfl HME.out (mvs_one _) (by omega) (by omega) ?_))
  intro v5 w5 ho5 _ hout5 _
  have hs5 := hout5.size
  have KO5 := Lib.hid ((KO.out.below ((Below.refl wo.heap.size wo).alloc (o := .cells #[] 66) (Nat.le_refl _)) KO.out.lt).outside hout5 (by omega))
  have hb5 : Below w1.heap.size w1 w5 := Below.outside hbe hout5 (by omega) (by omega)
  have HO5 : Hid (OwnM (w1.heap.size + 1) w5.heap.size 66 w5 v5 ms) := Lib.hid (by unfold OwnM; simpa using ho5)
  obtain ⟨pa, pc, rfl⟩ := Own.shape ho5
  replace HB := Lib.hid (HB.out.trans (hb5.mono (by omega)))
  replace K1 := Lib.hid (K1.out.below hb5 K1.out.lt)
  replace K2 := Lib.hid (K2.out.below hb5 K2.out.lt)
  replace HX := Lib.hid (HX.out.below hb5 (by omega))
  replace HMS := Lib.hid (Sl.below HMS.out hb5 (by omega))
  replace HO1 := Lib.hid (HO1.out.below hb5 (Nat.le_refl _))
  clear ho5 hout5 hb5 hbe OE HME d0 f0 f1 f2 f3 c0 c1 c2 c3
  have d0 := K1.out.cell 0
  have f2 := KO5.out.free 2
  have c2 := KO5.out.cell 2
  obtain ⟨w6, hw6⟩ : ∃ w6, w6 = w5.setCell ⟨w1.heap.size, 2, none⟩ (.slice pa ms.length pc) := ⟨_, rfl⟩
  have KO6 := Lib.hid (show Blk w1.heap.size _ w6 by rw [hw6]; exact KO5.out.put 2 (.slice pa ms.length pc))
  have hO6 : Outside w1.heap.size (w1.heap.size + 1) w5 w6 := by rw [hw6]; exact Outside.put w1.heap.size 2 w5 _
  have hs6 := hO6.size
  have HW6 := Lib.hid hw6
  replace HB := Lib.hid (Below.outside HB.out hO6 (by omega) (by omega))
  replace K1 := Lib.hid (K1.out.outside hO6 (by omega))
  replace K2 := Lib.hid (K2.out.outside hO6 (by omega))
  replace HX := Lib.hid (HX.out.outside hO6 (.inl (by omega)))
  replace HMS := Lib.hid (Sl.outside HMS.out hO6 (.inl (by omega)))
  replace HO1 := Lib.hid (HO1.out.outside hO6 (.inl (by omega)))
  replace HO5 := Lib.hid (OwnM.outside HO5.out hO6 (.inr (by omega)))
  clear hw6 hO6
  have d6 := K1.out.cell 0
  go_wp2_with (rw [← HW6.out])
  refine (spec_ProofRun _ _ _ _ a _ D.first ms w6 HX.out.first (by omega) HMS.out hml).mono ?_
  rintro e3 w7 ⟨v7, ok7, rfl, hb7, hok7, ho7⟩
  have hs7 := hb7.size
  obtain ⟨pn, pm, rfl, _⟩ := Own.open ho7
  replace HB := Lib.hid (HB.out.trans (hb7.mono (by omega)))
  replace K2 := Lib.hid (K2.out.below hb7 K2.out.lt)
  have KO7 := Lib.hid (KO6.out.below hb7 KO6.out.lt)
  replace HO1 := Lib.hid (HO1.out.below hb7 (by omega))
  replace HO5 := Lib.hid (OwnM.below HO5.out hb7 (by omega))
  obtain ⟨w8, hw8⟩ : ∃ w8, w8 = w7.setCell ⟨w1.heap.size, 3, none⟩ (.slice pn ((proofV D.first ms).getD []).length pm) := ⟨_, rfl⟩
  have KO8 := Lib.hid (show Blk w1.heap.size _ w8 by rw [hw8]; exact KO7.out.put 3 (.slice pn ((proofV D.first ms).getD []).length pm))
  have hO8 : Outside w1.heap.size (w1.heap.size + 1) w7 w8 := by rw [hw8]; exact Outside.put w1.heap.size 3 w7 _
  have hs8 := hO8.size
  have HW8 := Lib.hid hw8
  replace HB := Lib.hid (Below.outside HB.out hO8 (by omega) (by omega))
  replace K2 := Lib.hid (K2.out.outside hO8 (by omega))
  replace HO1 := Lib.hid (HO1.out.outside hO8 (.inl (by omega)))
  replace HO5 := Lib.hid (OwnM.outside HO5.out hO8 (.inr (by omega)))
  have HO7 := Lib.hid (OwnI.outside ho7 hO8 (.inr (by omega)))
  clear hw8 hO8 d0 d6 f2 c2 hb7 ho7
  have f3 := KO7.out.free 3
  have c3 := KO7.out.cell 3
  have o0 := KO8.out.cell 0
  have o1 := KO8.out.cell 1
  have o2 := KO8.out.cell 2
  have o3 := KO8.out.cell 3
  have g0 := K2.out.free 0
  have g1 := K2.out.free 1
  have g2 := K2.out.free 2
  have g3 := K2.out.free 3
  have h0 := K2.out.cell 0
  have h1 := K2.out.cell 1
  have h2 := K2.out.cell 2
  have h3 := K2.out.cell 3
  obtain ⟨wz, hwz⟩ : ∃ wz, wz = (((w8.setCell ⟨w.heap.size + 1, 0, none⟩ (.slice p0 D.first.length q0)).setCell ⟨w.heap.size + 1, 1, none⟩ (.slice p1 D.goal.length q1)).setCell ⟨w.heap.size + 1, 2, none⟩ (.slice pa ms.length pc)).setCell ⟨w.heap.size + 1, 3, none⟩ (.slice pn ((proofV D.first ms).getD []).length pm) := ⟨_, rfl⟩
  have KZ := K2.out.set4 (.slice p0 D.first.length q0) (.slice p1 D.goal.length q1) (.slice pa ms.length pc) (.slice pn ((proofV D.first ms).getD []).length pm)
  have hO := Outside.set4 (w.heap.size + 1) w8 (.slice p0 D.first.length q0) (.slice p1 D.goal.length q1) (.slice pa ms.length pc) (.slice pn ((proofV D.first ms).getD []).length pm)
  rw [← hwz] at KZ hO
  have hsz := hO.size
  have HZ := Lib.hid (Below.outside HB.out hO (by omega) (by omega))
  have HOZ := Lib.hid hO
  have r0 := KZ.cell 0
  have r1 := KZ.cell 1
  have r2 := KZ.cell 2
  have r3 := KZ.cell 3
  clear KZ hO
  go_wp2_with (rw [← HW8.out])
  simp only [← hwz]
  clear hwz
  refine bodyPost_ret (v := aggD (.slice p0 D.first.length q0) (.slice p1 D.goal.length q1) (.slice pa ms.length pc) (.slice pn ((proofV D.first ms).getD []).length pm)) (by simp [results, Tryz.results91, go_sem, r0, r1, r2, r3]) rfl (RetD.mk _ _ _ _ rfl ⟨?_, HZ.out⟩)
  obtain ⟨l1, h1, l2, h2, l3, h3, l4, h4, o1, o2, o3, o4, r1, r2, r3, r4, rest⟩ := HO1.out.outside HOZ.out (.inr (by omega))
  exact ⟨l1, h1, l2, h2, w1.heap.size + 1, w5.heap.size, w6.heap.size, w7.heap.size, o1, o2, OwnM.outside HO5.out HOZ.out (.inr (by omega)), OwnI.outside HO7.out HOZ.out (.inr (by omega)), by omega, by omega, by omega, by omega, rest.1, .inl (by omega), .inl (by omega), .inl (by omega), .inl (by omega), .inl (by omega)⟩
end Go.Proofs.YtjpndimhegfbnaaGreatDoor
