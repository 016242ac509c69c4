/-
  Texts of walks and plain lemmas for this seat; no condition.
-/
import Derived.Test.YtipbanhelhidnaaGreatDoorGO
namespace Go.Proofs.YtipbanhelhidnaaGreatDoor
open Go.RowKit

def RetDI (P : Value → Value → Value → Value → Int → World → Prop) (e : Ending) (w' : World) : Prop := ∃ a b c d n, e = .returned (.tuple #[aggD a b c d, .int .i64 n]) ∧ P a b c d n w'
theorem RetDI.mk {P : Value → Value → Value → Value → Int → World → Prop} {e : Ending} {w' : World} (a b c d : Value) (n : Int) (h : e = .returned (.tuple #[aggD a b c d, .int .i64 n])) (hp : P a b c d n w') : RetDI P e w' := ⟨a, b, c, d, n, h, hp⟩
/-- A fresh desk and a number are handed back. -/
abbrev RunR (w : World) (r : Dsk × Int) : Ending → World → Prop := RetDI fun a b c d n w' => DeskOwn w.heap.size w'.heap.size w' a b c d r.1 ∧ n = r.2 ∧ Below w.heap.size w w'

set_option maxRecDepth 100000 in
set_option maxHeartbeats 3200000 in
theorem impl_DeskRun (lo hi lo' hi' : Nat) (a b c d v : Value) (D : Dsk) (l : List Ac) (w : World) (hE : EnvK w) (hx : DeskAt lo hi w a b c d D) (hh : hi ≤ w.heap.size) (hm : D.size ≤ 1048576) (hl : SlA lo' hi' w v l) (hh' : hi' ≤ w.heap.size) :
    Calls Tryz.prog 12 #[aggD a b c d, v] w (RunR w (deskRun D l)) := by
  have HM := Lib.hid hm
  unfold Dsk.size at hm
  obtain ⟨va, vc, rfl, hvc1, hvc2⟩ := hl.shape
  unfold maxLen at hvc2
  obtain ⟨w0, hw0⟩ : ∃ w0, w0 = (w.alloc (.cells #[a, b, c, d] 31)).alloc (.cells #[.slice none 0 0, .slice none 0 0, .slice none 0 0, .slice none 0 0] 31) := ⟨_, rfl⟩
  have hb0 : Below w.heap.size w w0 := by rw [hw0]; exact ((Below.refl _ _).alloc (Nat.le_refl _) _).alloc (by simp) _
  have hs0 : w0.heap.size = w.heap.size + 2 := by rw [hw0]; simp
  have K1 : Hid (Blk w.heap.size (.cells #[a, b, c, d] 31) w0) := by
    rw [hw0]
    exact Lib.hid ((Blk.new w _).below ((Below.refl (w.alloc _).heap.size _).alloc (Nat.le_refl _) _) (by simp))
  have K3 : Hid (Blk (w.heap.size + 1) (.cells #[.slice none 0 0, .slice none 0 0, .slice none 0 0, .slice none 0 0] 31) w0) := by
    have h := Blk.new (w.alloc (.cells #[a, b, c, d] 31)) (.cells #[.slice none 0 0, .slice none 0 0, .slice none 0 0, .slice none 0 0] 31)
    rw [alloc_size] at h
    rw [hw0]; exact Lib.hid h
  have HX := Lib.hid (hx.below hb0 hh)
  have HL := Lib.hid (SlA.below hl hb0 hh')
  have HB := Lib.hid hb0
  have HE := Lib.hid hE
  have HW0 := Lib.hid hw0
  clear hx hl hb0 hw0 hE
  obtain ⟨dv, hdv⟩ : ∃ dv, dv = deskV D := ⟨_, rfl⟩
  have HDV := Lib.hid hdv
  clear hdv
  have d0 := K1.out.cell 0
  have d1 := K1.out.cell 1
  have d2 := K1.out.cell 2
  have d3 := K1.out.cell 3
  go_enter Tryz.func12, Tryz.ntmps12
  go_wp2_with (rw [← HW0.out])
  refine (impl_DeskValid _ _ a b c d D w0 (HE.out.below HB.out) HX.out (by omega) HM.out).mono ?_
  rintro e1 w1 ⟨rfl, hb1⟩
  rw [← HDV.out]
  have hs1 := hb1.size
  replace HB := Lib.hid (HB.out.trans (hb1.mono (by omega)))
  replace K1 := Lib.hid (K1.out.below hb1 K1.out.lt)
  replace K3 := Lib.hid (K3.out.below hb1 K3.out.lt)
  replace HX := Lib.hid (HX.out.below hb1 (by omega))
  replace HL := Lib.hid (SlA.below HL.out hb1 (by omega))
  clear hb1 d0 d1 d2 d3
  have d0 := K1.out.cell 0
  have d1 := K1.out.cell 1
  have d2 := K1.out.cell 2
  have d3 := K1.out.cell 3
  by_cases hc : dv = true ∧ l.length ≤ 40
  · obtain ⟨rfl, h40⟩ := hc
    have hn40 : ¬ (40 : Int) < (l.length : Int) := by omega
    have HV := Lib.hid (HDV.out.symm : deskV D = true)
    have HR := Lib.hid (show deskRun D l = runA D l by rw [deskRun, if_pos ⟨HV.out, h40⟩])
    go_wp2_with fail
    refine (desk_clone _ _ a b c d D w1 HX.out (by omega) HM.out).mono ?_
    rintro e2 w2 ⟨z0, z1, z2, z3, rfl, ho2, hb2⟩
    have hs2 := hb2.size
    replace HB := Lib.hid (HB.out.trans (hb2.mono (by omega)))
    replace K3 := Lib.hid (K3.out.below hb2 (by omega))
    replace HL := Lib.hid (SlA.below HL.out hb2 (by omega))
    obtain ⟨x0, y0, x1, y1, x2, y2, x3, y3, e0, e1, e2, e3⟩ := ho2.open
    subst e0 e1 e2 e3
    have HO2 := Lib.hid ho2
    clear hb2 ho2 d0 d1 d2 d3
    obtain ⟨wo, hwo⟩ : ∃ wo, wo = w2.alloc (.cells #[.slice x0 D.first.length y0, .slice x1 D.goal.length y1, .slice x2 D.made.length y2, .slice x3 D.now.length y3] 31) := ⟨_, rfl⟩
    have KO : Hid (Blk w2.heap.size (.cells #[.slice x0 D.first.length y0, .slice x1 D.goal.length y1, .slice x2 D.made.length y2, .slice x3 D.now.length y3] 31) wo) := by rw [hwo]; exact Lib.hid (Blk.new w2 _)
    have hbo : Below w2.heap.size w2 wo := by rw [hwo]; exact (Below.refl _ _).alloc (Nat.le_refl _) _
    have hso : wo.heap.size = w2.heap.size + 1 := by rw [hwo]; simp
    have HWO := Lib.hid hwo
    replace HB := Lib.hid (HB.out.trans (hbo.mono (by omega)))
    replace K3 := Lib.hid (K3.out.below hbo (by omega))
    replace HL := Lib.hid (SlA.below HL.out hbo (by omega))
    replace HO2 := Lib.hid (HO2.out.below hbo (Nat.le_refl _))
    clear hwo hbo
    have hgl : w.heap.size + 2 ≤ w2.heap.size := by omega
    go_wp2_with (rw [← HWO.out])
    go_loopw [7, 25] (fun n i wr => ∃ (k : Nat) (D' : Dsk) (m : Int) (a' b' c' d' : Value) (l2 h2 : Nat), k ≤ l.length ∧ n = .int .i64 m ∧ i = .int .i64 k ∧ Hid ((D', m) = runA D (l.take k) ∧ DeskOwn l2 h2 wr a' b' c' d' D' ∧ w.heap.size + 2 ≤ l2 ∧ h2 ≤ wr.heap.size ∧ Blk w2.heap.size (.cells #[a', b', c', d'] 31) wr ∧ Blk (w.heap.size + 1) (.cells #[.slice none 0 0, .slice none 0 0, .slice none 0 0, .slice none 0 0] 31) wr ∧ Below w.heap.size w wr ∧ wo.heap.size ≤ wr.heap.size ∧ SlA lo' hi' wr (.slice va l.length vc) l)) (fun _ i _ => l.length - (intOf i).toNat)
    case atStart =>
      exact ⟨0, D, 0, _, _, _, _, _, _, by omega, rfl, rfl, Lib.hid ⟨rfl, HO2.out, by omega, by omega, KO.out, K3.out, HB.out, Nat.le_refl _, HL.out⟩⟩
    case round =>
      clear KO K3 HB HL HO2
      obtain ⟨k, D', m, a', b', c', d', l2, h2, hk, rfl, rfl, HQ⟩ := hrel
      have HP := Lib.hid HQ.out.1
      have HO := Lib.hid HQ.out.2.1
      have hl2 := HQ.out.2.2.1
      have hh2 := HQ.out.2.2.2.1
      have KO := Lib.hid HQ.out.2.2.2.2.1
      have K3 := Lib.hid HQ.out.2.2.2.2.2.1
      have HB := Lib.hid HQ.out.2.2.2.2.2.2.1
      have hsr := HQ.out.2.2.2.2.2.2.2.1
      have HL := Lib.hid HQ.out.2.2.2.2.2.2.2.2
      clear HQ
      have hsz := HB.out.size
      obtain ⟨n0, n1, n2, n3, n4, n5, n6, n7, e0, e1, e2, e3⟩ := HO.out.open
      subst e0 e1 e2 e3
      have HV' := Lib.hid (show deskV D' = true by have h := runA_valid HV.out (l.take k); rw [← HP.out] at h; exact h)
      have hms := deskV_size HV'.out
      have hmn : 0 ≤ m ∧ m ≤ 40 := by
        have h := runA_many D (l.take k)
        rw [← HP.out] at h
        simp at h
        omega
      obtain ⟨hmn1, hmn2⟩ := hmn
      by_cases hlt : k < l.length
      · obtain ⟨bb, off, rfl, _, hbh, hbs, g0, g1, g2, g3, g4⟩ := HL.out.get k hlt
        obtain ⟨A, hA⟩ : ∃ A, A = l[k] := ⟨_, rfl⟩
        rw [← hA] at g0 g1 g2 g3 g4
        have HST := Lib.hid (show stepA (D', m) A = runA D (l.take (k + 1)) by rw [hA, runA_snoc D l k hlt, ← HP.out])
        clear hA
        obtain ⟨wa, hwa⟩ : ∃ wa, wa = wr.alloc (.cells #[.int .i64 A.kind, .int .i64 A.step.which, .bool A.step.back, .int .i64 A.step.at_, .int .i64 A.count] 41) := ⟨_, rfl⟩
        have hba : Below wr.heap.size wr wa := by rw [hwa]; exact (Below.refl _ _).alloc (Nat.le_refl _) _
        have hsa : wa.heap.size = wr.heap.size + 1 := by rw [hwa]; simp
        have KA : Hid (Blk wr.heap.size (.cells #[.int .i64 A.kind, .int .i64 A.step.which, .bool A.step.back, .int .i64 A.step.at_, .int .i64 A.count] 41) wa) := by rw [hwa]; exact Lib.hid (Blk.new wr _)
        have HWA := Lib.hid hwa
        replace HB := Lib.hid (HB.out.trans (hba.mono (by omega)))
        have hlo := KO.out.lt
        replace KO := Lib.hid (KO.out.below hba (by omega))
        replace K3 := Lib.hid (K3.out.below hba (by omega))
        replace HL := Lib.hid (SlA.below HL.out hba (by omega))
        replace HO := Lib.hid (HO.out.below hba (by omega))
        clear hba hwa
        have o0 := KO.out.cell 0
        have o1 := KO.out.cell 1
        have o2 := KO.out.cell 2
        have o3 := KO.out.cell 3
        have a0 := KA.out.cell 0
        have a1 := KA.out.cell 1
        have a2 := KA.out.cell 2
        have a3 := KA.out.cell 3
        have a4 := KA.out.cell 4
        go_wp2_with (rw [← HWA.out])
        refine (impl_DeskDo _ _ _ _ _ _ D' A wa (HE.out.below HB.out) HO.out.at (by omega) (by omega)).mono ?_
        rintro e3 w3 ⟨u0, u1, u2, u3, ok, rfl, ho3, hok, hb3⟩
        have hs3 := hb3.size
        replace HB := Lib.hid (HB.out.trans (hb3.mono (by omega)))
        replace KO := Lib.hid (KO.out.below hb3 (by omega))
        replace K3 := Lib.hid (K3.out.below hb3 (by omega))
        replace HL := Lib.hid (SlA.below HL.out hb3 (by omega))
        obtain ⟨X, hX⟩ : ∃ X, X = (deskDo D' A).1 := ⟨_, rfl⟩
        obtain ⟨t, ht⟩ : ∃ t, t = (deskDo D' A).2 := ⟨_, rfl⟩
        rw [← hX] at ho3
        rw [← ht] at hok
        subst hok
        have HST2 := Lib.hid (show (X, if ok then m + 1 else m) = runA D (l.take (k + 1)) by rw [← HST.out, stepA, hX, ht])
        obtain ⟨z0, z1, z2, z3, z4, z5, z6, z7, f0, f1, f2, f3⟩ := ho3.open
        subst f0 f1 f2 f3
        have HO3 := Lib.hid ho3
        clear hb3 ho3 hX ht o0 o1 o2 o3 a0 a1 a2 a3 a4 HO HST
        obtain ⟨wn, hwn⟩ : ∃ wn, wn = w3.alloc (.cells #[.slice z0 X.first.length z1, .slice z2 X.goal.length z3, .slice z4 X.made.length z5, .slice z6 X.now.length z7] 31) := ⟨_, rfl⟩
        have hbn : Below w3.heap.size w3 wn := by rw [hwn]; exact (Below.refl _ _).alloc (Nat.le_refl _) _
        have hsn : wn.heap.size = w3.heap.size + 1 := by rw [hwn]; simp
        have KN : Hid (Blk w3.heap.size (.cells #[.slice z0 X.first.length z1, .slice z2 X.goal.length z3, .slice z4 X.made.length z5, .slice z6 X.now.length z7] 31) wn) := by rw [hwn]; exact Lib.hid (Blk.new w3 _)
        have HWN := Lib.hid hwn
        replace HB := Lib.hid (HB.out.trans (hbn.mono (by omega)))
        replace KO := Lib.hid (KO.out.below hbn (by omega))
        replace K3 := Lib.hid (K3.out.below hbn (by omega))
        replace HL := Lib.hid (SlA.below HL.out hbn (by omega))
        replace HO3 := Lib.hid (HO3.out.below hbn (by omega))
        clear hbn hwn
        have n0 := KN.out.cell 0
        have n1 := KN.out.cell 1
        have n2 := KN.out.cell 2
        have n3 := KN.out.cell 3
        cases ok
        · have f0 := KO.out.free 0
          have f1 := KO.out.free 1
          have f2 := KO.out.free 2
          have f3 := KO.out.free 3
          have c0 := KO.out.cell 0
          have c1 := KO.out.cell 1
          have c2 := KO.out.cell 2
          have c3 := KO.out.cell 3
          obtain ⟨wz, hwz⟩ : ∃ wz, wz = (((wn.setCell ⟨w2.heap.size, 0, none⟩ (.slice z0 X.first.length z1)).setCell ⟨w2.heap.size, 1, none⟩ (.slice z2 X.goal.length z3)).setCell ⟨w2.heap.size, 2, none⟩ (.slice z4 X.made.length z5)).setCell ⟨w2.heap.size, 3, none⟩ (.slice z6 X.now.length z7) := ⟨_, rfl⟩
          have KZ := KO.out.set4 (.slice z0 X.first.length z1) (.slice z2 X.goal.length z3) (.slice z4 X.made.length z5) (.slice z6 X.now.length z7)
          have hO := Outside.set4 (w2.heap.size) wn (.slice z0 X.first.length z1) (.slice z2 X.goal.length z3) (.slice z4 X.made.length z5) (.slice z6 X.now.length z7)
          rw [← hwz] at KZ hO
          have hsz := hO.size
          have HZ := Lib.hid (Below.outside HB.out hO (by omega) (by omega))
          have HOZ := Lib.hid hO
          have q0 := KZ.cell 0
          have q1 := KZ.cell 1
          have q2 := KZ.cell 2
          have q3 := KZ.cell 3
          have HKZ := Lib.hid KZ
          clear KZ hO
          go_wp2_with (rw [← HWN.out])
          simp only [← hwz]
          clear hwz
          go_roundw
          case rel =>
            exact ⟨k + 1, X, m, _, _, _, _, _, _, by omega, by go_num, by go_num, Lib.hid ⟨HST2.out, HO3.out.outside HOZ.out (.inr (by omega)), by omega, by omega, HKZ.out, K3.out.outside HOZ.out (.inl (by omega)), HZ.out, by omega, SlA.outside HL.out HOZ.out (.inl (by omega))⟩⟩
          case measure => simp [intOf]; omega
        · have f0 := KO.out.free 0
          have f1 := KO.out.free 1
          have f2 := KO.out.free 2
          have f3 := KO.out.free 3
          have c0 := KO.out.cell 0
          have c1 := KO.out.cell 1
          have c2 := KO.out.cell 2
          have c3 := KO.out.cell 3
          obtain ⟨wz, hwz⟩ : ∃ wz, wz = (((wn.setCell ⟨w2.heap.size, 0, none⟩ (.slice z0 X.first.length z1)).setCell ⟨w2.heap.size, 1, none⟩ (.slice z2 X.goal.length z3)).setCell ⟨w2.heap.size, 2, none⟩ (.slice z4 X.made.length z5)).setCell ⟨w2.heap.size, 3, none⟩ (.slice z6 X.now.length z7) := ⟨_, rfl⟩
          have KZ := KO.out.set4 (.slice z0 X.first.length z1) (.slice z2 X.goal.length z3) (.slice z4 X.made.length z5) (.slice z6 X.now.length z7)
          have hO := Outside.set4 (w2.heap.size) wn (.slice z0 X.first.length z1) (.slice z2 X.goal.length z3) (.slice z4 X.made.length z5) (.slice z6 X.now.length z7)
          rw [← hwz] at KZ hO
          have hsz := hO.size
          have HZ := Lib.hid (Below.outside HB.out hO (by omega) (by omega))
          have HOZ := Lib.hid hO
          have q0 := KZ.cell 0
          have q1 := KZ.cell 1
          have q2 := KZ.cell 2
          have q3 := KZ.cell 3
          have HKZ := Lib.hid KZ
          clear KZ hO
          go_wp2_with (rw [← HWN.out])
          simp only [← hwz]
          clear hwz
          go_roundw
          case rel =>
            exact ⟨k + 1, X, m + 1, _, _, _, _, _, _, by omega, by go_num, by go_num, Lib.hid ⟨HST2.out, HO3.out.outside HOZ.out (.inr (by omega)), by omega, by omega, HKZ.out, K3.out.outside HOZ.out (.inl (by omega)), HZ.out, by omega, SlA.outside HL.out HOZ.out (.inl (by omega))⟩⟩
          case measure => simp [intOf]; omega

      · obtain rfl : k = l.length := by omega
        have HD := Lib.hid (show deskRun D l = (D', m) by rw [HR.out, HP.out, List.take_of_length_le (Nat.le_refl _)])
        have o0 := KO.out.cell 0
        have o1 := KO.out.cell 1
        have o2 := KO.out.cell 2
        have o3 := KO.out.cell 3
        clear hlt
        have f0 := K3.out.free 0
        have f1 := K3.out.free 1
        have f2 := K3.out.free 2
        have f3 := K3.out.free 3
        have c0 := K3.out.cell 0
        have c1 := K3.out.cell 1
        have c2 := K3.out.cell 2
        have c3 := K3.out.cell 3
        obtain ⟨wz, hwz⟩ : ∃ wz, wz = (((wr.setCell ⟨w.heap.size + 1, 0, none⟩ (.slice n0 D'.first.length n1)).setCell ⟨w.heap.size + 1, 1, none⟩ (.slice n2 D'.goal.length n3)).setCell ⟨w.heap.size + 1, 2, none⟩ (.slice n4 D'.made.length n5)).setCell ⟨w.heap.size + 1, 3, none⟩ (.slice n6 D'.now.length n7) := ⟨_, rfl⟩
        have KZ := K3.out.set4 (.slice n0 D'.first.length n1) (.slice n2 D'.goal.length n3) (.slice n4 D'.made.length n5) (.slice n6 D'.now.length n7)
        have hO := Outside.set4 (w.heap.size + 1) wr (.slice n0 D'.first.length n1) (.slice n2 D'.goal.length n3) (.slice n4 D'.made.length n5) (.slice n6 D'.now.length n7)
        rw [← hwz] at KZ hO
        have hsz := hO.size
        have HZ := Lib.hid (Below.outside HB.out hO (by omega) (by omega))
        have HOZ := Lib.hid hO
        have q0 := KZ.cell 0
        have q1 := KZ.cell 1
        have q2 := KZ.cell 2
        have q3 := KZ.cell 3
        have HKZ := Lib.hid KZ
        clear KZ hO
        go_wp2
        simp only [← hwz]
        clear hwz

        refine bodyPost_ret (v := .tuple #[aggD (.slice n0 D'.first.length n1) (.slice n2 D'.goal.length n3) (.slice n4 D'.made.length n5) (.slice n6 D'.now.length n7), .int .i64 m]) (by simp [results, Tryz.results12, go_sem, q0, q1, q2, q3]) rfl (RetDI.mk _ _ _ _ _ rfl ⟨?_, ?_, HZ.out⟩)
        · rw [HD.out]
          exact (HO.out.outside HOZ.out (.inr (by omega))).wide (by omega) (by omega)
        · rw [HD.out]

  · have HD := Lib.hid (show deskRun D l = (Dsk.none, 0) by rw [deskRun, if_neg (by rw [← HDV.out]; exact hc)])
    have hcs : dv = false ∨ dv = true ∧ (40 : Int) < (l.length : Int) := by
      cases dv
      · exact .inl rfl
      · exact .inr ⟨rfl, by simp at hc; omega⟩
    clear hc
    rcases hcs with rfl | ⟨rfl, h40⟩
    all_goals (
      have f0 := K3.out.free 0
      have f1 := K3.out.free 1
      have f2 := K3.out.free 2
      have f3 := K3.out.free 3
      have c0 := K3.out.cell 0
      have c1 := K3.out.cell 1
      have c2 := K3.out.cell 2
      have c3 := K3.out.cell 3
      obtain ⟨wz, hwz⟩ : ∃ wz, wz = (((w1.setCell ⟨w.heap.size + 1, 0, none⟩ (.slice none 0 0)).setCell ⟨w.heap.size + 1, 1, none⟩ (.slice none 0 0)).setCell ⟨w.heap.size + 1, 2, none⟩ (.slice none 0 0)).setCell ⟨w.heap.size + 1, 3, none⟩ (.slice none 0 0) := ⟨_, rfl⟩
      have KZ := K3.out.set4 (.slice none 0 0) (.slice none 0 0) (.slice none 0 0) (.slice none 0 0)
      have hO := Outside.set4 (w.heap.size + 1) w1 (.slice none 0 0) (.slice none 0 0) (.slice none 0 0) (.slice none 0 0)
      rw [← hwz] at KZ hO
      have hsz := hO.size
      have HZ := Lib.hid (Below.outside HB.out hO (by omega) (by omega))
      have HOZ := Lib.hid hO
      have q0 := KZ.cell 0
      have q1 := KZ.cell 1
      have q2 := KZ.cell 2
      have q3 := KZ.cell 3
      have HKZ := Lib.hid KZ
      clear KZ hO
      go_wp2
      simp only [← hwz]
      clear hwz

      refine bodyPost_ret (v := .tuple #[aggD (.slice none 0 0) (.slice none 0 0) (.slice none 0 0) (.slice none 0 0), .int .i64 0]) (by simp [results, Tryz.results12, go_sem, q0, q1, q2, q3]) rfl (RetDI.mk _ _ _ _ _ rfl ⟨?_, ?_, HZ.out⟩)
      · rw [HD.out]
        exact DeskOwn.nils _ _ HZ.out.size _
      · rw [HD.out]
)
end Go.Proofs.YtipbanhelhidnaaGreatDoor
