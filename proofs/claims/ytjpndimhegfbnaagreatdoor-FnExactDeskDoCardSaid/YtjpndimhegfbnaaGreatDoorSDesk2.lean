/-
  Texts of walks and plain lemmas for this seat; no condition.
-/
import Derived.Test.YtjpndimhegfbnaaGreatDoorSDesk
import Derived.Test.YtjpndimhegfbnaaGreatDoorDoP
namespace Go.Proofs.YtjpndimhegfbnaaGreatDoor
open Go.RowKit

theorem deskV_kat {D : Dsk} (h : deskV D = true) : (katV D.first && katV D.goal) = true ∧ proofV D.first D.made = some D.now := by
  unfold deskV at h
  cases hp : proofV D.first D.made with
  | none => rw [hp] at h; cases h
  | some x =>
    rw [hp] at h
    simp only [Bool.and_eq_true] at h
    have h1 : katV D.first = true := by
      unfold proofV at hp
      split at hp
      · rename_i h2; simp at h2; exact h2.1
      · cases hp
    have h2 : x = D.now := by simpa [eqL] using h.2
    exact ⟨by rw [h1, h.1]; rfl, by rw [h2]⟩

set_option maxRecDepth 100000 in
set_option maxHeartbeats 3200000 in
theorem spec_DeskDo (lo hi : Nat) (a b c d : Value) (D : Dsk) (A : Ac) (w : World) (hx : DeskAt lo hi w a b c d D) (hh : hi ≤ w.heap.size) (hm : D.size ≤ 1048576) :
    Calls Tryz.prog 57 #[aggD a b c d, aggA A] w (DoneR w (deskDo D A)) := by
  have HM := Lib.hid hm
  unfold Dsk.size at hm
  obtain ⟨w0, hw0⟩ : ∃ w0, w0 = ((w.alloc (.cells #[a, b, c, d] 35)).alloc (.cells #[.int .i64 A.kind, .int .i64 A.step.which, .bool A.step.back, .int .i64 A.step.at_, .int .i64 A.count] 74)).alloc (.cells #[.slice none 0 0, .slice none 0 0, .slice none 0 0, .slice none 0 0] 35) := ⟨_, rfl⟩
  have hb0 : Below w.heap.size w w0 := by rw [hw0]; exact (((Below.refl _ _).alloc (Nat.le_refl _) _).alloc (by simp) _).alloc (by simp; omega) _
  have hs0 : w0.heap.size = w.heap.size + 3 := by rw [hw0]; simp
  have K1 : Hid (Blk w.heap.size (.cells #[a, b, c, d] 35) w0) := by
    rw [hw0]
    exact Lib.hid (((Blk.new w _).below ((Below.refl (w.alloc _).heap.size _).alloc (Nat.le_refl _) _) (by simp)).below ((Below.refl ((w.alloc _).alloc _).heap.size _).alloc (Nat.le_refl _) _) (by simp; omega))
  have K2 : Hid (Blk (w.heap.size + 1) (.cells #[.int .i64 A.kind, .int .i64 A.step.which, .bool A.step.back, .int .i64 A.step.at_, .int .i64 A.count] 74) w0) := by
    have h := (Blk.new (w.alloc (.cells #[a, b, c, d] 35)) (.cells #[.int .i64 A.kind, .int .i64 A.step.which, .bool A.step.back, .int .i64 A.step.at_, .int .i64 A.count] 74)).below ((Below.refl ((w.alloc (.cells #[a, b, c, d] 35)).alloc (.cells #[.int .i64 A.kind, .int .i64 A.step.which, .bool A.step.back, .int .i64 A.step.at_, .int .i64 A.count] 74)).heap.size _).alloc (o := (.cells #[.slice none 0 0, .slice none 0 0, .slice none 0 0, .slice none 0 0] 35)) (Nat.le_refl _)) (by simp)
    rw [alloc_size] at h
    rw [hw0]; exact Lib.hid h
  have K3 : Hid (Blk (w.heap.size + 1 + 1) (.cells #[.slice none 0 0, .slice none 0 0, .slice none 0 0, .slice none 0 0] 35) w0) := by
    have h := Blk.new ((w.alloc (.cells #[a, b, c, d] 35)).alloc (.cells #[.int .i64 A.kind, .int .i64 A.step.which, .bool A.step.back, .int .i64 A.step.at_, .int .i64 A.count] 74)) (.cells #[.slice none 0 0, .slice none 0 0, .slice none 0 0, .slice none 0 0] 35)
    rw [alloc_size, alloc_size] at h
    rw [hw0]; exact Lib.hid h
  have HX := Lib.hid (hx.below hb0 hh)
  have HB := Lib.hid hb0
  have HW0 := Lib.hid hw0
  clear hx hb0 hw0
  obtain ⟨dv, hdv⟩ : ∃ dv, dv = deskV D := ⟨_, rfl⟩
  have HDV := Lib.hid hdv
  clear hdv
  have d0 := K1.out.cell 0
  have d1 := K1.out.cell 1
  have d2 := K1.out.cell 2
  have d3 := K1.out.cell 3
  have a0 := K2.out.cell 0
  have a1 := K2.out.cell 1
  have a2 := K2.out.cell 2
  have a3 := K2.out.cell 3
  have a4 := K2.out.cell 4
  go_enter Tryz.func57, Tryz.ntmps57
  go_wp2_with (rw [← HW0.out])
  refine (spec_DeskValid _ _ a b c d D w0 HX.out (by omega) HM.out).mono ?_
  rintro e1 w1 ⟨rfl, hb1⟩
  rw [← HDV.out]
  have hs1 := hb1.size
  replace HB := Lib.hid (HB.out.trans (hb1.mono (by omega)))
  replace K1 := Lib.hid (K1.out.below hb1 K1.out.lt)
  replace K2 := Lib.hid (K2.out.below hb1 K2.out.lt)
  replace K3 := Lib.hid (K3.out.below hb1 K3.out.lt)
  replace HX := Lib.hid (HX.out.below hb1 (by omega))
  clear hb1 d0 d1 d2 d3 a0 a1 a2 a3 a4
  have d0 := K1.out.cell 0
  have d1 := K1.out.cell 1
  have d2 := K1.out.cell 2
  have d3 := K1.out.cell 3
  have a0 := K2.out.cell 0
  have a1 := K2.out.cell 1
  have a2 := K2.out.cell 2
  have a3 := K2.out.cell 3
  have a4 := K2.out.cell 4
  cases dv
  · have HD := Lib.hid (show deskDo D A = (Dsk.none, false) by simp [deskDo, ← HDV.out])
    have f0 := K3.out.free 0
    have f1 := K3.out.free 1
    have f2 := K3.out.free 2
    have f3 := K3.out.free 3
    have c0 := K3.out.cell 0
    have c1 := K3.out.cell 1
    have c2 := K3.out.cell 2
    have c3 := K3.out.cell 3
    obtain ⟨wz, hwz⟩ : ∃ wz, wz = (((w1.setCell ⟨w.heap.size + 1 + 1, 0, none⟩ (.slice none 0 0)).setCell ⟨w.heap.size + 1 + 1, 1, none⟩ (.slice none 0 0)).setCell ⟨w.heap.size + 1 + 1, 2, none⟩ (.slice none 0 0)).setCell ⟨w.heap.size + 1 + 1, 3, none⟩ (.slice none 0 0) := ⟨_, rfl⟩
    have KZ := K3.out.set4 (.slice none 0 0) (.slice none 0 0) (.slice none 0 0) (.slice none 0 0)
    have hO := Outside.set4 (w.heap.size + 1 + 1) w1 (.slice none 0 0) (.slice none 0 0) (.slice none 0 0) (.slice none 0 0)
    rw [← hwz] at KZ hO
    have hsz := hO.size
    have HZ := Lib.hid (Below.outside HB.out hO (by omega) (by omega))
    have HOZ := Lib.hid hO
    have q0 := KZ.cell 0
    have q1 := KZ.cell 1
    have q2 := KZ.cell 2
    have q3 := KZ.cell 3
    clear KZ hO
    go_wp2
    simp only [← hwz]
    clear hwz
    refine bodyPost_ret (v := .tuple #[aggD (.slice none 0 0) (.slice none 0 0) (.slice none 0 0) (.slice none 0 0), .bool false]) (by simp [results, Tryz.results57, go_sem, q0, q1, q2, q3]) rfl (RetDB.mk _ _ _ _ _ rfl ⟨?_, ?_, HZ.out⟩)
    · rw [HD.out]
      exact DeskOwn.nils _ _ HZ.out.size _
    · rw [HD.out]
  · obtain ⟨hk, hp0⟩ := deskV_kat HDV.out.symm
    have HP0 := Lib.hid hp0
    have HK := Lib.hid hk
    clear hk hp0
    go_wp2_with fail
    refine (spec_l10With _ _ _ _ a b c d c D D.made w1 HX.out (by omega) HM.out HX.out.made (by omega) (by omega) HK.out).mono ?_
    rintro e2 w2 ⟨z0, z1, z2, z3, rfl, ho2, hb2⟩
    rw [HP0.out] at ho2
    obtain ⟨x0, y0, x1, y1, x2, y2, x3, y3, e0, e1, e2, e3⟩ := ho2.open
    change z0 = .slice x0 D.first.length y0 at e0
    change z1 = .slice x1 D.goal.length y1 at e1
    change z2 = .slice x2 D.made.length y2 at e2
    change z3 = .slice x3 D.now.length y3 at e3
    subst e0 e1 e2 e3
    have hs2 := hb2.size
    replace HB := Lib.hid (HB.out.trans (hb2.mono (by omega)))
    replace K1 := Lib.hid (K1.out.below hb2 K1.out.lt)
    replace K2 := Lib.hid (K2.out.below hb2 K2.out.lt)
    replace K3 := Lib.hid (K3.out.below hb2 K3.out.lt)
    replace HX := Lib.hid (HX.out.below hb2 (by omega))
    have HO2 : Hid (DeskOwn w1.heap.size w2.heap.size w2 (.slice x0 D.first.length y0) (.slice x1 D.goal.length y1) (.slice x2 D.made.length y2) (.slice x3 D.now.length y3) D) := Lib.hid ho2
    clear hb2 ho2 d0 d1 d2 d3 a0 a1 a2 a3 a4
    obtain ⟨wo, hwo⟩ : ∃ wo, wo = w2.alloc (.cells #[.slice x0 D.first.length y0, .slice x1 D.goal.length y1, .slice x2 D.made.length y2, .slice x3 D.now.length y3] 35) := ⟨_, rfl⟩
    have KO : Hid (Blk w2.heap.size (.cells #[.slice x0 D.first.length y0, .slice x1 D.goal.length y1, .slice x2 D.made.length y2, .slice x3 D.now.length y3] 35) wo) := by rw [hwo]; exact Lib.hid (Blk.new w2 _)
    have hbo : Below w2.heap.size w2 wo := by rw [hwo]; exact (Below.refl _ _).alloc (Nat.le_refl _) _
    have hso : wo.heap.size = w2.heap.size + 1 := by rw [hwo]; simp
    have HWO := Lib.hid hwo
    replace HB := Lib.hid (HB.out.trans (hbo.mono (by omega)))
    replace K1 := Lib.hid (K1.out.below hbo K1.out.lt)
    replace K2 := Lib.hid (K2.out.below hbo K2.out.lt)
    replace K3 := Lib.hid (K3.out.below hbo K3.out.lt)
    replace HX := Lib.hid (HX.out.below hbo (by omega))
    replace HO2 := Lib.hid (HO2.out.below hbo (Nat.le_refl _))
    clear hwo hbo
    have d2 := K1.out.cell 2
    have d3 := K1.out.cell 3
    have a1 := K2.out.cell 1
    have a2 := K2.out.cell 2
    have a3 := K2.out.cell 3
    go_wp2_with (rw [← HWO.out])
    refine (spec_MoveDo d D.now A.step wo (SlI.rd HX.out.now (by omega)) (by omega)).mono ?_
    rintro e3 w3 ⟨v3, can, rfl, hb3, hcan, ho3⟩
    have hs3 := hb3.size
    replace HB := Lib.hid (HB.out.trans (hb3.mono (by omega)))
    replace K1 := Lib.hid (K1.out.below hb3 K1.out.lt)
    replace K2 := Lib.hid (K2.out.below hb3 K2.out.lt)
    replace K3 := Lib.hid (K3.out.below hb3 K3.out.lt)
    replace KO := Lib.hid (KO.out.below hb3 KO.out.lt)
    replace HX := Lib.hid (HX.out.below hb3 (by omega))
    replace HO2 := Lib.hid (HO2.out.below hb3 (by omega))
    have HCAN := Lib.hid hcan
    obtain ⟨xm, ym, rfl, _⟩ := Own.open ho3
    clear hb3 ho3 hcan d2 d3 a1 a2 a3
    have d2 := K1.out.cell 2
    obtain ⟨ma, mc, hce, hmc1, hmc2⟩ := HX.out.made.shape
    unfold maxLen at hmc2
    subst hce
    have OE : Hid (Own 3 w3.heap.size (w3.heap.size + 1) 66 (w3.alloc (.cells #[] 66)) (.slice (some ⟨w3.heap.size, 0, none⟩) 0 0) 0 []) := Lib.hid (Own.lit 3 66 w3 [] 0 (by omega) rfl)
    have hbe : Below w3.heap.size w3 (w3.alloc (.cells #[] 66)) := (Below.refl _ _).alloc (Nat.le_refl _) _
    have d2e := (K1.out.below hbe K1.out.lt).cell 2
    have HME := Lib.hid (Sl.below HX.out.made hbe (by omega))
    have hze : (w3.alloc (.cells #[] 66)).heap.size = w3.heap.size + 1 := by simp
    go_wp2_with (at_builtin; go_loud (refine wpList_app_sl rfl _ _ 33 rfl 66 (.agg #[.int .i64 0, .bool false, .int .i64 0]) 3 24 Tryz.underlying33 info_mv rfl (by decide) (by decide) rfl OE.out rfl HME.out (mvs_one _) (by omega) (by omega) ?_))
    intro v5 w5 ho5 _ hout5 _
    have hs5 := hout5.size
    have hb5 : Below w3.heap.size w3 w5 := Below.outside hbe hout5 (Nat.le_refl _) (by omega)
    have HO5 : Hid (OwnM w3.heap.size w5.heap.size 66 w5 v5 D.made) := Lib.hid (by unfold OwnM; simpa using ho5)
    obtain ⟨pa, pc, rfl, hpc1, hpc2⟩ := (OwnM.sl HO5.out).shape
    unfold maxLen at hpc2
    replace HB := Lib.hid (HB.out.trans (hb5.mono (by omega)))
    replace K1 := Lib.hid (K1.out.below hb5 K1.out.lt)
    replace K2 := Lib.hid (K2.out.below hb5 K2.out.lt)
    replace K3 := Lib.hid (K3.out.below hb5 K3.out.lt)
    replace KO := Lib.hid (KO.out.below hb5 KO.out.lt)
    replace HX := Lib.hid (HX.out.below hb5 (by omega))
    replace HO2 := Lib.hid (HO2.out.below hb5 (by omega))
    clear ho5 hout5 hb5 hbe OE HME d2 d2e
    have a0 := K2.out.cell 0
    have a1 := K2.out.cell 1
    have a2 := K2.out.cell 2
    have a3 := K2.out.cell 3
    have a4 := K2.out.cell 4
    obtain ⟨nb, hnb⟩ : ∃ nb, nb = namedB A := ⟨_, rfl⟩
    have HNB := Lib.hid hnb
    clear hnb
    go_wp2_with fail
    refine (l10Named_any A w5).mono ?_
    rintro e6 w6 ⟨rfl, hb6⟩
    rw [← HNB.out]
    have hs6 := hb6.size
    replace HB := Lib.hid (HB.out.trans (hb6.mono (by omega)))
    replace K1 := Lib.hid (K1.out.below hb6 K1.out.lt)
    replace K2 := Lib.hid (K2.out.below hb6 K2.out.lt)
    replace K3 := Lib.hid (K3.out.below hb6 K3.out.lt)
    replace KO := Lib.hid (KO.out.below hb6 KO.out.lt)
    replace HX := Lib.hid (HX.out.below hb6 (by omega))
    replace HO2 := Lib.hid (HO2.out.below hb6 (by omega))
    replace HO5 := Lib.hid (OwnM.below HO5.out hb6 (Nat.le_refl _))
    clear hb6 a0 a1 a2 a3 a4
    cases nb
    · have HD := Lib.hid (show deskDo D A = (D, false) by simp [deskDo_said HDV.out.symm, madeS, ← HNB.out, deskTo])
      have o0 := KO.out.cell 0
      have o1 := KO.out.cell 1
      have o2 := KO.out.cell 2
      have o3 := KO.out.cell 3
      have f0 := K3.out.free 0
      have f1 := K3.out.free 1
      have f2 := K3.out.free 2
      have f3 := K3.out.free 3
      have c0 := K3.out.cell 0
      have c1 := K3.out.cell 1
      have c2 := K3.out.cell 2
      have c3 := K3.out.cell 3
      obtain ⟨wz, hwz⟩ : ∃ wz, wz = (((w6.setCell ⟨w.heap.size + 1 + 1, 0, none⟩ (.slice x0 D.first.length y0)).setCell ⟨w.heap.size + 1 + 1, 1, none⟩ (.slice x1 D.goal.length y1)).setCell ⟨w.heap.size + 1 + 1, 2, none⟩ (.slice x2 D.made.length y2)).setCell ⟨w.heap.size + 1 + 1, 3, none⟩ (.slice x3 D.now.length y3) := ⟨_, rfl⟩
      have KZ := K3.out.set4 (.slice x0 D.first.length y0) (.slice x1 D.goal.length y1) (.slice x2 D.made.length y2) (.slice x3 D.now.length y3)
      have hO := Outside.set4 (w.heap.size + 1 + 1) w6 (.slice x0 D.first.length y0) (.slice x1 D.goal.length y1) (.slice x2 D.made.length y2) (.slice x3 D.now.length y3)
      rw [← hwz] at KZ hO
      have hsz := hO.size
      have HZ := Lib.hid (Below.outside HB.out hO (by omega) (by omega))
      have HOZ := Lib.hid hO
      have q0 := KZ.cell 0
      have q1 := KZ.cell 1
      have q2 := KZ.cell 2
      have q3 := KZ.cell 3
      clear KZ hO
      go_wp2
      simp only [← hwz]
      clear hwz
      refine bodyPost_ret (v := .tuple #[aggD (.slice x0 D.first.length y0) (.slice x1 D.goal.length y1) (.slice x2 D.made.length y2) (.slice x3 D.now.length y3), .bool false]) (by simp [results, Tryz.results57, go_sem, q0, q1, q2, q3]) rfl (RetDB.mk _ _ _ _ _ rfl ⟨?_, ?_, HZ.out⟩)
      · rw [HD.out]
        exact (HO2.out.outside HOZ.out (.inr (by omega))).wide (by omega) (by omega)
      · rw [HD.out]
    have a0 := K2.out.cell 0
    have hm60 : D.made.length ≤ 60 := (deskV_parts HDV.out.symm).2.2.2.1
    have hl1 := K1.out.lt
    have hl2 := K2.out.lt
    have hl3 := K3.out.lt
    have hlo := KO.out.lt
    rcases named_kinds HNB.out.symm with hk | hk | hk
    · rw [hk] at a0
      cases can
      · have HD := Lib.hid (show deskDo D A = (D, false) by
          have h1 : (moveV D.now A.step).isSome = false := HCAN.out.symm
          simp [deskDo_said HDV.out.symm, madeS, ← HNB.out, hk, h1, deskTo])
        clear hk
        have o0 := KO.out.cell 0
        have o1 := KO.out.cell 1
        have o2 := KO.out.cell 2
        have o3 := KO.out.cell 3
        have f0 := K3.out.free 0
        have f1 := K3.out.free 1
        have f2 := K3.out.free 2
        have f3 := K3.out.free 3
        have c0 := K3.out.cell 0
        have c1 := K3.out.cell 1
        have c2 := K3.out.cell 2
        have c3 := K3.out.cell 3
        obtain ⟨wz, hwz⟩ : ∃ wz, wz = (((w6.setCell ⟨w.heap.size + 1 + 1, 0, none⟩ (.slice x0 D.first.length y0)).setCell ⟨w.heap.size + 1 + 1, 1, none⟩ (.slice x1 D.goal.length y1)).setCell ⟨w.heap.size + 1 + 1, 2, none⟩ (.slice x2 D.made.length y2)).setCell ⟨w.heap.size + 1 + 1, 3, none⟩ (.slice x3 D.now.length y3) := ⟨_, rfl⟩
        have KZ := K3.out.set4 (.slice x0 D.first.length y0) (.slice x1 D.goal.length y1) (.slice x2 D.made.length y2) (.slice x3 D.now.length y3)
        have hO := Outside.set4 (w.heap.size + 1 + 1) w6 (.slice x0 D.first.length y0) (.slice x1 D.goal.length y1) (.slice x2 D.made.length y2) (.slice x3 D.now.length y3)
        rw [← hwz] at KZ hO
        have hsz := hO.size
        have HZ := Lib.hid (Below.outside HB.out hO (by omega) (by omega))
        have HOZ := Lib.hid hO
        have q0 := KZ.cell 0
        have q1 := KZ.cell 1
        have q2 := KZ.cell 2
        have q3 := KZ.cell 3
        clear KZ hO
        go_wp2
        simp only [← hwz]
        clear hwz
        refine bodyPost_ret (v := .tuple #[aggD (.slice x0 D.first.length y0) (.slice x1 D.goal.length y1) (.slice x2 D.made.length y2) (.slice x3 D.now.length y3), .bool false]) (by simp [results, Tryz.results57, go_sem, q0, q1, q2, q3]) rfl (RetDB.mk _ _ _ _ _ rfl ⟨?_, ?_, HZ.out⟩)
        · rw [HD.out]
          exact (HO2.out.outside HOZ.out (.inr (by omega))).wide (by omega) (by omega)
        · rw [HD.out]
      · have HR := Lib.hid (show some (D.made ++ [A.step]) = madeS D A by
          have h1 : (moveV D.now A.step).isSome = true := HCAN.out.symm
          simp [madeS, ← HNB.out, hk, h1])
        clear hk
        have a1 := K2.out.cell 1
        have a2 := K2.out.cell 2
        have a3 := K2.out.cell 3
        go_wp2_with (at_builtin; go_loud (refine wpList_app_lit w6 rfl _ _ 33 rfl 66 (.agg #[.int .i64 0, .bool false, .int .i64 0]) 3 24 Tryz.underlying33 info_mv rfl (by decide) (by decide) rfl HO5.out 1 (encMv A.step) rfl rfl (encMv_one A.step) rfl (by omega) (by omega) ?_))
        intro v7 w7 ho7 hout7 _
        have hs7 := hout7.size
        have hb7 : Below w3.heap.size w6 w7 := Below.outside ((Below.refl w6.heap.size w6).mono (by omega)) hout7 (Nat.le_refl _) (by omega)
        have hm7 : SlM w3.heap.size w7.heap.size w7 v7 (D.made ++ [A.step]) := by unfold SlM; rw [List.length_append, mvs_append]; exact Own.sl ho7
        obtain ⟨qa, qc, hv⟩ := Own.shape ho7
        obtain ⟨ml, hml⟩ : ∃ ml, ml = D.made.length + 1 := ⟨_, rfl⟩
        rw [← hml] at hv
        subst hv
        obtain ⟨ms, hms⟩ : ∃ ms, ms = D.made ++ [A.step] := ⟨_, rfl⟩
        have HLEN : Hid (ms.length = ml) := Lib.hid (by rw [hms, hml]; simp)
        rw [← hms] at HR hm7
        have HMS := Lib.hid hm7
        have HL : Hid (w7.heap.size ≤ w7.heap.size) := Lib.hid (Nat.le_refl _)
        have hmb : ml ≤ 1048576 := by omega
        clear a0 a1 a2 a3
        replace HB := Lib.hid (HB.out.trans (hb7.mono (by omega)))
        replace K1 := Lib.hid (K1.out.below hb7 (by omega))
        replace K2 := Lib.hid (K2.out.below hb7 (by omega))
        replace K3 := Lib.hid (K3.out.below hb7 (by omega))
        replace KO := Lib.hid (KO.out.below hb7 (by omega))
        replace HX := Lib.hid (HX.out.below hb7 (by omega))
        replace HO2 := Lib.hid (HO2.out.below hb7 (by omega))
        clear hb7 hout7 ho7 hm7 hms hml
        by_cases hq : ml > 60 ∨ ml = D.made.length
        · have HD := Lib.hid (show deskDo D A = (D, false) by rw [deskDo_said HDV.out.symm, ← HR.out]; simp only [deskTo, HLEN.out]; rw [if_pos hq])
          have d2 := K1.out.cell 2
          by_cases h6 : 60 < ml
          · have h6' : (60 : Int) < (ml : Int) := by omega
            clear hq
            have o0 := KO.out.cell 0
            have o1 := KO.out.cell 1
            have o2 := KO.out.cell 2
            have o3 := KO.out.cell 3
            have f0 := K3.out.free 0
            have f1 := K3.out.free 1
            have f2 := K3.out.free 2
            have f3 := K3.out.free 3
            have c0 := K3.out.cell 0
            have c1 := K3.out.cell 1
            have c2 := K3.out.cell 2
            have c3 := K3.out.cell 3
            obtain ⟨wz, hwz⟩ : ∃ wz, wz = (((w7.setCell ⟨w.heap.size + 1 + 1, 0, none⟩ (.slice x0 D.first.length y0)).setCell ⟨w.heap.size + 1 + 1, 1, none⟩ (.slice x1 D.goal.length y1)).setCell ⟨w.heap.size + 1 + 1, 2, none⟩ (.slice x2 D.made.length y2)).setCell ⟨w.heap.size + 1 + 1, 3, none⟩ (.slice x3 D.now.length y3) := ⟨_, rfl⟩
            have KZ := K3.out.set4 (.slice x0 D.first.length y0) (.slice x1 D.goal.length y1) (.slice x2 D.made.length y2) (.slice x3 D.now.length y3)
            have hO := Outside.set4 (w.heap.size + 1 + 1) w7 (.slice x0 D.first.length y0) (.slice x1 D.goal.length y1) (.slice x2 D.made.length y2) (.slice x3 D.now.length y3)
            rw [← hwz] at KZ hO
            have hsz := hO.size
            have HZ := Lib.hid (Below.outside HB.out hO (by omega) (by omega))
            have HOZ := Lib.hid hO
            have q0 := KZ.cell 0
            have q1 := KZ.cell 1
            have q2 := KZ.cell 2
            have q3 := KZ.cell 3
            clear KZ hO
            go_wp2
            simp only [← hwz]
            clear hwz
            refine bodyPost_ret (v := .tuple #[aggD (.slice x0 D.first.length y0) (.slice x1 D.goal.length y1) (.slice x2 D.made.length y2) (.slice x3 D.now.length y3), .bool false]) (by simp [results, Tryz.results57, go_sem, q0, q1, q2, q3]) rfl (RetDB.mk _ _ _ _ _ rfl ⟨?_, ?_, HZ.out⟩)
            · rw [HD.out]
              exact (HO2.out.outside HOZ.out (.inr (by omega))).wide (by omega) (by omega)
            · rw [HD.out]
          · have h7 : ml = D.made.length := by omega
            have h7' : (ml : Int) = (D.made.length : Int) := by omega
            have h6' : ¬ (60 : Int) < (ml : Int) := by omega
            clear hq h7
            have o0 := KO.out.cell 0
            have o1 := KO.out.cell 1
            have o2 := KO.out.cell 2
            have o3 := KO.out.cell 3
            have f0 := K3.out.free 0
            have f1 := K3.out.free 1
            have f2 := K3.out.free 2
            have f3 := K3.out.free 3
            have c0 := K3.out.cell 0
            have c1 := K3.out.cell 1
            have c2 := K3.out.cell 2
            have c3 := K3.out.cell 3
            obtain ⟨wz, hwz⟩ : ∃ wz, wz = (((w7.setCell ⟨w.heap.size + 1 + 1, 0, none⟩ (.slice x0 D.first.length y0)).setCell ⟨w.heap.size + 1 + 1, 1, none⟩ (.slice x1 D.goal.length y1)).setCell ⟨w.heap.size + 1 + 1, 2, none⟩ (.slice x2 D.made.length y2)).setCell ⟨w.heap.size + 1 + 1, 3, none⟩ (.slice x3 D.now.length y3) := ⟨_, rfl⟩
            have KZ := K3.out.set4 (.slice x0 D.first.length y0) (.slice x1 D.goal.length y1) (.slice x2 D.made.length y2) (.slice x3 D.now.length y3)
            have hO := Outside.set4 (w.heap.size + 1 + 1) w7 (.slice x0 D.first.length y0) (.slice x1 D.goal.length y1) (.slice x2 D.made.length y2) (.slice x3 D.now.length y3)
            rw [← hwz] at KZ hO
            have hsz := hO.size
            have HZ := Lib.hid (Below.outside HB.out hO (by omega) (by omega))
            have HOZ := Lib.hid hO
            have q0 := KZ.cell 0
            have q1 := KZ.cell 1
            have q2 := KZ.cell 2
            have q3 := KZ.cell 3
            clear KZ hO
            go_wp2
            simp only [← hwz]
            clear hwz
            refine bodyPost_ret (v := .tuple #[aggD (.slice x0 D.first.length y0) (.slice x1 D.goal.length y1) (.slice x2 D.made.length y2) (.slice x3 D.now.length y3), .bool false]) (by simp [results, Tryz.results57, go_sem, q0, q1, q2, q3]) rfl (RetDB.mk _ _ _ _ _ rfl ⟨?_, ?_, HZ.out⟩)
            · rw [HD.out]
              exact (HO2.out.outside HOZ.out (.inr (by omega))).wide (by omega) (by omega)
            · rw [HD.out]
        · have HQ := Lib.hid hq
          have h6 : ¬ 60 < ml := by omega
          have h6' : ¬ (60 : Int) < (ml : Int) := by omega
          have h7 : ¬ ml = D.made.length := by omega
          have h7' : ¬ (ml : Int) = (D.made.length : Int) := by omega
          clear hq
          have HD := Lib.hid (show deskDo D A = (⟨D.first, D.goal, ms, (proofV D.first ms).getD []⟩, true) by rw [deskDo_said HDV.out.symm, ← HR.out]; simp only [deskTo, HLEN.out]; rw [if_neg HQ.out])
          obtain ⟨nw, hnw⟩ : ∃ nw, nw = (proofV D.first ms).getD [] := ⟨_, rfl⟩
          rw [← hnw] at HD
          have HNW := Lib.hid hnw
          clear hnw
          have d0 := K1.out.cell 0
          have d1 := K1.out.cell 1
          have d2 := K1.out.cell 2
          have d3 := K1.out.cell 3
          go_wp2_with fail
          refine (spec_l10With _ _ _ _ a b _ d _ D ms w7 HX.out (by omega) HM.out HMS.out HL.out (by rw [HLEN.out]; omega) HK.out).mono ?_
          rintro e9 w9 ⟨z0, z1, z2, z3, rfl, ho9, hb9⟩
          rw [← HNW.out] at ho9
          obtain ⟨u0, t0, u1, t1, u2, t2, u3, t3, e0, e1, e2, e3⟩ := ho9.open
          change z0 = .slice u0 D.first.length t0 at e0
          change z1 = .slice u1 D.goal.length t1 at e1
          change z2 = .slice u2 ms.length t2 at e2
          change z3 = .slice u3 nw.length t3 at e3
          rw [HLEN.out] at e2
          subst e0 e1 e2 e3
          have HO9 := Lib.hid ho9
          have hs9 := hb9.size
          replace HB := Lib.hid (HB.out.trans (hb9.mono (by omega)))
          replace K3 := Lib.hid (K3.out.below hb9 (by omega))
          clear hb9 ho9 d0 d1 d2 d3
          have f0 := K3.out.free 0
          have f1 := K3.out.free 1
          have f2 := K3.out.free 2
          have f3 := K3.out.free 3
          have c0 := K3.out.cell 0
          have c1 := K3.out.cell 1
          have c2 := K3.out.cell 2
          have c3 := K3.out.cell 3
          obtain ⟨wz, hwz⟩ : ∃ wz, wz = (((w9.setCell ⟨w.heap.size + 1 + 1, 0, none⟩ (.slice u0 D.first.length t0)).setCell ⟨w.heap.size + 1 + 1, 1, none⟩ (.slice u1 D.goal.length t1)).setCell ⟨w.heap.size + 1 + 1, 2, none⟩ (.slice u2 ml t2)).setCell ⟨w.heap.size + 1 + 1, 3, none⟩ (.slice u3 nw.length t3) := ⟨_, rfl⟩
          have KZ := K3.out.set4 (.slice u0 D.first.length t0) (.slice u1 D.goal.length t1) (.slice u2 ml t2) (.slice u3 nw.length t3)
          have hO := Outside.set4 (w.heap.size + 1 + 1) w9 (.slice u0 D.first.length t0) (.slice u1 D.goal.length t1) (.slice u2 ml t2) (.slice u3 nw.length t3)
          rw [← hwz] at KZ hO
          have hsz := hO.size
          have HZ := Lib.hid (Below.outside HB.out hO (by omega) (by omega))
          have HOZ := Lib.hid hO
          have q0 := KZ.cell 0
          have q1 := KZ.cell 1
          have q2 := KZ.cell 2
          have q3 := KZ.cell 3
          clear KZ hO
          go_wp2
          simp only [← hwz]
          clear hwz
          refine bodyPost_ret (v := .tuple #[aggD (.slice u0 D.first.length t0) (.slice u1 D.goal.length t1) (.slice u2 ml t2) (.slice u3 nw.length t3), .bool true]) (by simp [results, Tryz.results57, go_sem, q0, q1, q2, q3]) rfl (RetDB.mk _ _ _ _ _ rfl ⟨?_, ?_, HZ.out⟩)
          · rw [HD.out]
            exact (HO9.out.outside HOZ.out (.inr (by omega))).wide (by omega) (by omega)
          · rw [HD.out]
    · rw [hk] at a0
      have a4 := K2.out.cell 4
      by_cases h1 : 1 ≤ A.count ∧ A.count ≤ D.made.length
      · obtain ⟨ml, hk2, hkl⟩ : ∃ k : Nat, (D.made.length : Int) - A.count = k ∧ k ≤ D.made.length := ⟨((D.made.length : Int) - A.count).toNat, by omega, by omega⟩
        have hin : inB A.count 1 (D.made.length : Int) = true := by simp [inB, h1]
        obtain ⟨ms, hms⟩ : ∃ ms, ms = D.made.take ml := ⟨_, rfl⟩
        have HR := Lib.hid (show some ms = madeS D A by
          have e1 : D.made.length - A.count.toNat = ml := by omega
          simp [madeS, ← HNB.out, hk, h1, hms, e1])
        have HLEN : Hid (ms.length = ml) := Lib.hid (by rw [hms]; simp; omega)
        have HMS := Lib.hid (show SlM w3.heap.size w5.heap.size w6 (.slice pa ml pc) ms by rw [hms]; exact SlM.front (OwnM.sl HO5.out) ml hkl)
        have HL : Hid (w5.heap.size ≤ w6.heap.size) := Lib.hid hs6
        have g3 : (0 : Int) ≤ ml := by omega
        have g4 : (ml : Int) ≤ pc := by omega
        have g5 : ml ≤ pc := by omega
        have HQ : Hid (¬ (ml > 60 ∨ ml = D.made.length)) := Lib.hid (by omega)
        have h6 : ¬ 60 < ml := by omega
        have h6' : ¬ (60 : Int) < (ml : Int) := by omega
        have h7 : ¬ ml = D.made.length := by omega
        have h7' : ¬ (ml : Int) = (D.made.length : Int) := by omega
        have h7b : ((ml : Int) == (D.made.length : Int)) = false := beq_false_of_ne h7'
        have hmb : ml ≤ 1048576 := by omega
        clear hk h1 hms
        have HD := Lib.hid (show deskDo D A = (⟨D.first, D.goal, ms, (proofV D.first ms).getD []⟩, true) by rw [deskDo_said HDV.out.symm, ← HR.out]; simp only [deskTo, HLEN.out]; rw [if_neg HQ.out])
        obtain ⟨nw, hnw⟩ : ∃ nw, nw = (proofV D.first ms).getD [] := ⟨_, rfl⟩
        rw [← hnw] at HD
        have HNW := Lib.hid hnw
        clear hnw
        have d0 := K1.out.cell 0
        have d1 := K1.out.cell 1
        have d2 := K1.out.cell 2
        have d3 := K1.out.cell 3
        go_wp2_with (go_at_call 69; refine (l1In_any _ _ _ _).mono ?_; rintro e w' ⟨rfl, rfl⟩)
        refine (spec_l10With _ _ _ _ a b _ d _ D ms w6 HX.out (by omega) HM.out HMS.out HL.out (by rw [HLEN.out]; omega) HK.out).mono ?_
        rintro e9 w9 ⟨z0, z1, z2, z3, rfl, ho9, hb9⟩
        rw [← HNW.out] at ho9
        obtain ⟨u0, t0, u1, t1, u2, t2, u3, t3, e0, e1, e2, e3⟩ := ho9.open
        change z0 = .slice u0 D.first.length t0 at e0
        change z1 = .slice u1 D.goal.length t1 at e1
        change z2 = .slice u2 ms.length t2 at e2
        change z3 = .slice u3 nw.length t3 at e3
        rw [HLEN.out] at e2
        subst e0 e1 e2 e3
        have HO9 := Lib.hid ho9
        have hs9 := hb9.size
        replace HB := Lib.hid (HB.out.trans (hb9.mono (by omega)))
        replace K3 := Lib.hid (K3.out.below hb9 (by omega))
        clear hb9 ho9 d0 d1 d2 d3
        have f0 := K3.out.free 0
        have f1 := K3.out.free 1
        have f2 := K3.out.free 2
        have f3 := K3.out.free 3
        have c0 := K3.out.cell 0
        have c1 := K3.out.cell 1
        have c2 := K3.out.cell 2
        have c3 := K3.out.cell 3
        obtain ⟨wz, hwz⟩ : ∃ wz, wz = (((w9.setCell ⟨w.heap.size + 1 + 1, 0, none⟩ (.slice u0 D.first.length t0)).setCell ⟨w.heap.size + 1 + 1, 1, none⟩ (.slice u1 D.goal.length t1)).setCell ⟨w.heap.size + 1 + 1, 2, none⟩ (.slice u2 ml t2)).setCell ⟨w.heap.size + 1 + 1, 3, none⟩ (.slice u3 nw.length t3) := ⟨_, rfl⟩
        have KZ := K3.out.set4 (.slice u0 D.first.length t0) (.slice u1 D.goal.length t1) (.slice u2 ml t2) (.slice u3 nw.length t3)
        have hO := Outside.set4 (w.heap.size + 1 + 1) w9 (.slice u0 D.first.length t0) (.slice u1 D.goal.length t1) (.slice u2 ml t2) (.slice u3 nw.length t3)
        rw [← hwz] at KZ hO
        have hsz := hO.size
        have HZ := Lib.hid (Below.outside HB.out hO (by omega) (by omega))
        have HOZ := Lib.hid hO
        have q0 := KZ.cell 0
        have q1 := KZ.cell 1
        have q2 := KZ.cell 2
        have q3 := KZ.cell 3
        clear KZ hO
        go_wp2
        simp only [← hwz]
        clear hwz
        refine bodyPost_ret (v := .tuple #[aggD (.slice u0 D.first.length t0) (.slice u1 D.goal.length t1) (.slice u2 ml t2) (.slice u3 nw.length t3), .bool true]) (by simp [results, Tryz.results57, go_sem, q0, q1, q2, q3]) rfl (RetDB.mk _ _ _ _ _ rfl ⟨?_, ?_, HZ.out⟩)
        · rw [HD.out]
          exact (HO9.out.outside HOZ.out (.inr (by omega))).wide (by omega) (by omega)
        · rw [HD.out]
      · have hin : inB A.count 1 (D.made.length : Int) = false := by simp [inB]; omega
        have HD := Lib.hid (show deskDo D A = (D, false) by
          have h2 : ¬ (A.kind = 1 ∧ 1 ≤ A.count ∧ A.count ≤ D.made.length) := fun h => h1 h.2
          have h3 : madeS D A = none := by
            unfold madeS
            rw [← HNB.out, if_neg h2]
            simp [hk]
          rw [deskDo_said HDV.out.symm, h3]
          rfl)
        clear hk h1
        have o0 := KO.out.cell 0
        have o1 := KO.out.cell 1
        have o2 := KO.out.cell 2
        have o3 := KO.out.cell 3
        have f0 := K3.out.free 0
        have f1 := K3.out.free 1
        have f2 := K3.out.free 2
        have f3 := K3.out.free 3
        have c0 := K3.out.cell 0
        have c1 := K3.out.cell 1
        have c2 := K3.out.cell 2
        have c3 := K3.out.cell 3
        obtain ⟨wz, hwz⟩ : ∃ wz, wz = (((w6.setCell ⟨w.heap.size + 1 + 1, 0, none⟩ (.slice x0 D.first.length y0)).setCell ⟨w.heap.size + 1 + 1, 1, none⟩ (.slice x1 D.goal.length y1)).setCell ⟨w.heap.size + 1 + 1, 2, none⟩ (.slice x2 D.made.length y2)).setCell ⟨w.heap.size + 1 + 1, 3, none⟩ (.slice x3 D.now.length y3) := ⟨_, rfl⟩
        have KZ := K3.out.set4 (.slice x0 D.first.length y0) (.slice x1 D.goal.length y1) (.slice x2 D.made.length y2) (.slice x3 D.now.length y3)
        have hO := Outside.set4 (w.heap.size + 1 + 1) w6 (.slice x0 D.first.length y0) (.slice x1 D.goal.length y1) (.slice x2 D.made.length y2) (.slice x3 D.now.length y3)
        rw [← hwz] at KZ hO
        have hsz := hO.size
        have HZ := Lib.hid (Below.outside HB.out hO (by omega) (by omega))
        have HOZ := Lib.hid hO
        have q0 := KZ.cell 0
        have q1 := KZ.cell 1
        have q2 := KZ.cell 2
        have q3 := KZ.cell 3
        clear KZ hO
        go_wp2_with (go_at_call 69; refine (l1In_any _ _ _ _).mono ?_; rintro e w' ⟨rfl, rfl⟩)
        simp only [← hwz]
        clear hwz
        refine bodyPost_ret (v := .tuple #[aggD (.slice x0 D.first.length y0) (.slice x1 D.goal.length y1) (.slice x2 D.made.length y2) (.slice x3 D.now.length y3), .bool false]) (by simp [results, Tryz.results57, go_sem, q0, q1, q2, q3]) rfl (RetDB.mk _ _ _ _ _ rfl ⟨?_, ?_, HZ.out⟩)
        · rw [HD.out]
          exact (HO2.out.outside HOZ.out (.inr (by omega))).wide (by omega) (by omega)
        · rw [HD.out]
    · rw [hk] at a0
      have HR := Lib.hid (show some (D.made ++ simpBy D.now) = madeS D A by simp [madeS, ← HNB.out, hk])
      have hsl := simpBy_len D.now
      clear hk
      have d3 := K1.out.cell 3
      go_wp2_with fail
      refine (spec_SimpleBy _ D.now w6 (SlI.rd HX.out.now (by omega)) (by omega)).mono ?_
      rintro e7 w7 ⟨v7, rfl, hb7, ho7⟩
      have hs7 := hb7.size
      replace HB := Lib.hid (HB.out.trans (hb7.mono (by omega)))
      replace K1 := Lib.hid (K1.out.below hb7 (by omega))
      replace K2 := Lib.hid (K2.out.below hb7 (by omega))
      replace K3 := Lib.hid (K3.out.below hb7 (by omega))
      replace KO := Lib.hid (KO.out.below hb7 (by omega))
      replace HX := Lib.hid (HX.out.below hb7 (by omega))
      replace HO2 := Lib.hid (HO2.out.below hb7 (by omega))
      replace HO5 := Lib.hid (OwnM.below HO5.out hb7 (by omega))
      obtain ⟨sa, sc, rfl⟩ := Own.shape ho7
      have HS7 := Lib.hid (OwnM.sl ho7)
      clear hb7 ho7 a0 d3
      go_wp2_with (at_builtin; go_loud (refine wpList_app_sl rfl _ _ 33 rfl 66 (.agg #[.int .i64 0, .bool false, .int .i64 0]) 3 24 Tryz.underlying33 info_mv rfl (by decide) (by decide) rfl HO5.out rfl HS7.out (mvs_one _) (by omega) (by omega) ?_))
      intro v8 w8 ho8 _ hout8 _
      have hs8 := hout8.size
      have hb8 : Below w3.heap.size w7 w8 := Below.outside ((Below.refl w7.heap.size w7).mono (by omega)) hout8 (Nat.le_refl _) (by omega)
      have hm8 : SlM w3.heap.size w8.heap.size w8 v8 (D.made ++ simpBy D.now) := by unfold SlM; rw [List.length_append, mvs_append]; exact Own.sl ho8
      obtain ⟨qa, qc, hv⟩ := Own.shape ho8
      obtain ⟨ml, hml⟩ : ∃ ml, ml = D.made.length + (simpBy D.now).length := ⟨_, rfl⟩
      rw [← hml] at hv
      subst hv
      obtain ⟨ms, hms⟩ : ∃ ms, ms = D.made ++ simpBy D.now := ⟨_, rfl⟩
      have HLEN : Hid (ms.length = ml) := Lib.hid (by rw [hms, hml]; simp)
      rw [← hms] at HR hm8
      have HMS := Lib.hid hm8
      have HL : Hid (w8.heap.size ≤ w8.heap.size) := Lib.hid (Nat.le_refl _)
      have hmb : ml ≤ 1048576 := by omega
      replace HB := Lib.hid (HB.out.trans (hb8.mono (by omega)))
      replace K1 := Lib.hid (K1.out.below hb8 (by omega))
      replace K2 := Lib.hid (K2.out.below hb8 (by omega))
      replace K3 := Lib.hid (K3.out.below hb8 (by omega))
      replace KO := Lib.hid (KO.out.below hb8 (by omega))
      replace HX := Lib.hid (HX.out.below hb8 (by omega))
      replace HO2 := Lib.hid (HO2.out.below hb8 (by omega))
      clear hb8 hout8 ho8 hm8 hms hml
      by_cases hq : ml > 60 ∨ ml = D.made.length
      · have HD := Lib.hid (show deskDo D A = (D, false) by rw [deskDo_said HDV.out.symm, ← HR.out]; simp only [deskTo, HLEN.out]; rw [if_pos hq])
        have d2 := K1.out.cell 2
        by_cases h6 : 60 < ml
        · have h6' : (60 : Int) < (ml : Int) := by omega
          clear hq
          have o0 := KO.out.cell 0
          have o1 := KO.out.cell 1
          have o2 := KO.out.cell 2
          have o3 := KO.out.cell 3
          have f0 := K3.out.free 0
          have f1 := K3.out.free 1
          have f2 := K3.out.free 2
          have f3 := K3.out.free 3
          have c0 := K3.out.cell 0
          have c1 := K3.out.cell 1
          have c2 := K3.out.cell 2
          have c3 := K3.out.cell 3
          obtain ⟨wz, hwz⟩ : ∃ wz, wz = (((w8.setCell ⟨w.heap.size + 1 + 1, 0, none⟩ (.slice x0 D.first.length y0)).setCell ⟨w.heap.size + 1 + 1, 1, none⟩ (.slice x1 D.goal.length y1)).setCell ⟨w.heap.size + 1 + 1, 2, none⟩ (.slice x2 D.made.length y2)).setCell ⟨w.heap.size + 1 + 1, 3, none⟩ (.slice x3 D.now.length y3) := ⟨_, rfl⟩
          have KZ := K3.out.set4 (.slice x0 D.first.length y0) (.slice x1 D.goal.length y1) (.slice x2 D.made.length y2) (.slice x3 D.now.length y3)
          have hO := Outside.set4 (w.heap.size + 1 + 1) w8 (.slice x0 D.first.length y0) (.slice x1 D.goal.length y1) (.slice x2 D.made.length y2) (.slice x3 D.now.length y3)
          rw [← hwz] at KZ hO
          have hsz := hO.size
          have HZ := Lib.hid (Below.outside HB.out hO (by omega) (by omega))
          have HOZ := Lib.hid hO
          have q0 := KZ.cell 0
          have q1 := KZ.cell 1
          have q2 := KZ.cell 2
          have q3 := KZ.cell 3
          clear KZ hO
          go_wp2
          simp only [← hwz]
          clear hwz
          refine bodyPost_ret (v := .tuple #[aggD (.slice x0 D.first.length y0) (.slice x1 D.goal.length y1) (.slice x2 D.made.length y2) (.slice x3 D.now.length y3), .bool false]) (by simp [results, Tryz.results57, go_sem, q0, q1, q2, q3]) rfl (RetDB.mk _ _ _ _ _ rfl ⟨?_, ?_, HZ.out⟩)
          · rw [HD.out]
            exact (HO2.out.outside HOZ.out (.inr (by omega))).wide (by omega) (by omega)
          · rw [HD.out]
        · have h7 : ml = D.made.length := by omega
          have h7' : (ml : Int) = (D.made.length : Int) := by omega
          have h6' : ¬ (60 : Int) < (ml : Int) := by omega
          clear hq h7
          have o0 := KO.out.cell 0
          have o1 := KO.out.cell 1
          have o2 := KO.out.cell 2
          have o3 := KO.out.cell 3
          have f0 := K3.out.free 0
          have f1 := K3.out.free 1
          have f2 := K3.out.free 2
          have f3 := K3.out.free 3
          have c0 := K3.out.cell 0
          have c1 := K3.out.cell 1
          have c2 := K3.out.cell 2
          have c3 := K3.out.cell 3
          obtain ⟨wz, hwz⟩ : ∃ wz, wz = (((w8.setCell ⟨w.heap.size + 1 + 1, 0, none⟩ (.slice x0 D.first.length y0)).setCell ⟨w.heap.size + 1 + 1, 1, none⟩ (.slice x1 D.goal.length y1)).setCell ⟨w.heap.size + 1 + 1, 2, none⟩ (.slice x2 D.made.length y2)).setCell ⟨w.heap.size + 1 + 1, 3, none⟩ (.slice x3 D.now.length y3) := ⟨_, rfl⟩
          have KZ := K3.out.set4 (.slice x0 D.first.length y0) (.slice x1 D.goal.length y1) (.slice x2 D.made.length y2) (.slice x3 D.now.length y3)
          have hO := Outside.set4 (w.heap.size + 1 + 1) w8 (.slice x0 D.first.length y0) (.slice x1 D.goal.length y1) (.slice x2 D.made.length y2) (.slice x3 D.now.length y3)
          rw [← hwz] at KZ hO
          have hsz := hO.size
          have HZ := Lib.hid (Below.outside HB.out hO (by omega) (by omega))
          have HOZ := Lib.hid hO
          have q0 := KZ.cell 0
          have q1 := KZ.cell 1
          have q2 := KZ.cell 2
          have q3 := KZ.cell 3
          clear KZ hO
          go_wp2
          simp only [← hwz]
          clear hwz
          refine bodyPost_ret (v := .tuple #[aggD (.slice x0 D.first.length y0) (.slice x1 D.goal.length y1) (.slice x2 D.made.length y2) (.slice x3 D.now.length y3), .bool false]) (by simp [results, Tryz.results57, go_sem, q0, q1, q2, q3]) rfl (RetDB.mk _ _ _ _ _ rfl ⟨?_, ?_, HZ.out⟩)
          · rw [HD.out]
            exact (HO2.out.outside HOZ.out (.inr (by omega))).wide (by omega) (by omega)
          · rw [HD.out]
      · have HQ := Lib.hid hq
        have h6 : ¬ 60 < ml := by omega
        have h6' : ¬ (60 : Int) < (ml : Int) := by omega
        have h7 : ¬ ml = D.made.length := by omega
        have h7' : ¬ (ml : Int) = (D.made.length : Int) := by omega
        clear hq
        have HD := Lib.hid (show deskDo D A = (⟨D.first, D.goal, ms, (proofV D.first ms).getD []⟩, true) by rw [deskDo_said HDV.out.symm, ← HR.out]; simp only [deskTo, HLEN.out]; rw [if_neg HQ.out])
        obtain ⟨nw, hnw⟩ : ∃ nw, nw = (proofV D.first ms).getD [] := ⟨_, rfl⟩
        rw [← hnw] at HD
        have HNW := Lib.hid hnw
        clear hnw
        have d0 := K1.out.cell 0
        have d1 := K1.out.cell 1
        have d2 := K1.out.cell 2
        have d3 := K1.out.cell 3
        go_wp2_with fail
        refine (spec_l10With _ _ _ _ a b _ d _ D ms w8 HX.out (by omega) HM.out HMS.out HL.out (by rw [HLEN.out]; omega) HK.out).mono ?_
        rintro e9 w9 ⟨z0, z1, z2, z3, rfl, ho9, hb9⟩
        rw [← HNW.out] at ho9
        obtain ⟨u0, t0, u1, t1, u2, t2, u3, t3, e0, e1, e2, e3⟩ := ho9.open
        change z0 = .slice u0 D.first.length t0 at e0
        change z1 = .slice u1 D.goal.length t1 at e1
        change z2 = .slice u2 ms.length t2 at e2
        change z3 = .slice u3 nw.length t3 at e3
        rw [HLEN.out] at e2
        subst e0 e1 e2 e3
        have HO9 := Lib.hid ho9
        have hs9 := hb9.size
        replace HB := Lib.hid (HB.out.trans (hb9.mono (by omega)))
        replace K3 := Lib.hid (K3.out.below hb9 (by omega))
        clear hb9 ho9 d0 d1 d2 d3
        have f0 := K3.out.free 0
        have f1 := K3.out.free 1
        have f2 := K3.out.free 2
        have f3 := K3.out.free 3
        have c0 := K3.out.cell 0
        have c1 := K3.out.cell 1
        have c2 := K3.out.cell 2
        have c3 := K3.out.cell 3
        obtain ⟨wz, hwz⟩ : ∃ wz, wz = (((w9.setCell ⟨w.heap.size + 1 + 1, 0, none⟩ (.slice u0 D.first.length t0)).setCell ⟨w.heap.size + 1 + 1, 1, none⟩ (.slice u1 D.goal.length t1)).setCell ⟨w.heap.size + 1 + 1, 2, none⟩ (.slice u2 ml t2)).setCell ⟨w.heap.size + 1 + 1, 3, none⟩ (.slice u3 nw.length t3) := ⟨_, rfl⟩
        have KZ := K3.out.set4 (.slice u0 D.first.length t0) (.slice u1 D.goal.length t1) (.slice u2 ml t2) (.slice u3 nw.length t3)
        have hO := Outside.set4 (w.heap.size + 1 + 1) w9 (.slice u0 D.first.length t0) (.slice u1 D.goal.length t1) (.slice u2 ml t2) (.slice u3 nw.length t3)
        rw [← hwz] at KZ hO
        have hsz := hO.size
        have HZ := Lib.hid (Below.outside HB.out hO (by omega) (by omega))
        have HOZ := Lib.hid hO
        have q0 := KZ.cell 0
        have q1 := KZ.cell 1
        have q2 := KZ.cell 2
        have q3 := KZ.cell 3
        clear KZ hO
        go_wp2
        simp only [← hwz]
        clear hwz
        refine bodyPost_ret (v := .tuple #[aggD (.slice u0 D.first.length t0) (.slice u1 D.goal.length t1) (.slice u2 ml t2) (.slice u3 nw.length t3), .bool true]) (by simp [results, Tryz.results57, go_sem, q0, q1, q2, q3]) rfl (RetDB.mk _ _ _ _ _ rfl ⟨?_, ?_, HZ.out⟩)
        · rw [HD.out]
          exact (HO9.out.outside HOZ.out (.inr (by omega))).wide (by omega) (by omega)
        · rw [HD.out]
end Go.Proofs.YtjpndimhegfbnaaGreatDoor
