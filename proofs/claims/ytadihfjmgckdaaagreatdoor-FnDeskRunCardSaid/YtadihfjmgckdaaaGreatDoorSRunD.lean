/-
  Texts of walks and plain lemmas for this seat; no condition.
-/
import Derived.Test.YtadihfjmgckdaaaGreatDoorIRunD
import Derived.Test.YtadihfjmgckdaaaGreatDoorGO
import Derived.Deep.RegionHeld3
namespace Go.Proofs.YtadihfjmgckdaaaGreatDoor
open Go.RowKit

set_option maxRecDepth 100000 in
set_option maxHeartbeats 3200000 in
theorem spec_DeskRun (lo hi lo' hi' : Nat) (a b c d v : Value) (D : Dsk) (l : List Ac) (w : World) (hx : DeskAt lo hi w a b c d D) (hh : hi ≤ w.heap.size) (hm : D.size ≤ 1048576) (hl : SlA lo' hi' w v l) (hh' : hi' ≤ w.heap.size) :
    Calls Tryz.prog 20 #[aggD a b c d, v] w (RunR w (deskRun D l)) := by
  have HM := Lib.hid hm
  unfold Dsk.size at hm
  obtain ⟨va, vc, rfl, hvc1, hvc2⟩ := hl.shape
  unfold maxLen at hvc2
  obtain ⟨w0, hw0⟩ : ∃ w0, w0 = (w.alloc (.cells #[a, b, c, d] 38)).alloc (.cells #[.slice none 0 0, .slice none 0 0, .slice none 0 0, .slice none 0 0] 38) := ⟨_, rfl⟩
  have hb0 : Below w.heap.size w w0 := by rw [hw0]; exact ((Below.refl _ _).alloc (Nat.le_refl _) _).alloc (by simp) _
  have hs0 : w0.heap.size = w.heap.size + 2 := by rw [hw0]; simp
  have K1 : Hid (Blk w.heap.size (.cells #[a, b, c, d] 38) w0) := by
    rw [hw0]
    exact Lib.hid ((Blk.new w _).below ((Below.refl (w.alloc _).heap.size _).alloc (Nat.le_refl _) _) (by simp))
  have K3 : Hid (Blk (w.heap.size + 1) (.cells #[.slice none 0 0, .slice none 0 0, .slice none 0 0, .slice none 0 0] 38) w0) := by
    have h := Blk.new (w.alloc (.cells #[a, b, c, d] 38)) (.cells #[.slice none 0 0, .slice none 0 0, .slice none 0 0, .slice none 0 0] 38)
    rw [alloc_size] at h
    rw [hw0]; exact Lib.hid h
  have HX := Lib.hid (hx.below hb0 hh)
  have HL := Lib.hid (SlA.below hl hb0 hh')
  have HB := Lib.hid hb0

  have HW0 := Lib.hid hw0
  clear hx hl hb0 hw0 
  obtain ⟨dv, hdv⟩ : ∃ dv, dv = deskV D := ⟨_, rfl⟩
  have HDV := Lib.hid hdv
  clear hdv
  have d0 := K1.out.cell 0
  have d1 := K1.out.cell 1
  have d2 := K1.out.cell 2
  have d3 := K1.out.cell 3
  go_enter Tryz.func20, Tryz.ntmps20
  go_wp2_with (rw [← HW0.out])
  refine (spec_DeskValid _ _ a b c d D w0 HX.out (by omega) HM.out).mono ?_
  rintro e1 w1 ⟨rfl, hb1⟩
  rw [← HDV.out]
  have hs1 := hb1.size
  replace HB := Lib.hid (HB.out.trans (hb1.mono (by omega)))
  replace K1 := Lib.hid (K1.out.below hb1 K1.out.lt)
  replace K3 := Lib.hid (K3.out.below hb1 K3.out.lt)
  replace HX := Lib.hid (HX.out.below hb1 (by omega))
  replace HL := Lib.hid (SlA.below HL.out hb1 (by omega))
  clear hb1 d0 d1 d2 d3
  have d0 := K1.out.cell 0
  have d1 := K1.out.cell 1
  have d2 := K1.out.cell 2
  have d3 := K1.out.cell 3
  by_cases hc : dv = true ∧ l.length ≤ 40
  · obtain ⟨rfl, h40⟩ := hc
    have hn40 : ¬ (40 : Int) < (l.length : Int) := by omega
    have HV := Lib.hid (HDV.out.symm : deskV D = true)
    have HR := Lib.hid (show deskRun D l = runA D l by rw [deskRun, if_pos ⟨HV.out, h40⟩])
    go_wp2_with fail
    obtain ⟨hk, hp0⟩ := deskV_kat HV.out
    obtain ⟨ma, mc, hce, hmc1, hmc2⟩ := HX.out.made.shape
    subst hce
    refine (spec_l10With _ _ _ _ a b _ d _ D D.made w1 HX.out (by omega) HM.out HX.out.made (by omega) (by omega) hk).mono ?_
    rintro e2 w2 ⟨z0, z1, z2, z3, rfl, ho2, hb2⟩
    rw [deskV_with HV.out] at ho2
    clear hk hp0
    have hs2 := hb2.size
    replace HB := Lib.hid (HB.out.trans (hb2.mono (by omega)))
    replace K3 := Lib.hid (K3.out.below hb2 (by omega))
    replace HL := Lib.hid (SlA.below HL.out hb2 (by omega))
    obtain ⟨x0, y0, x1, y1, x2, y2, x3, y3, e0, e1, e2, e3⟩ := ho2.open
    subst e0 e1 e2 e3
    have HO2 := Lib.hid ho2
    clear hb2 ho2 d0 d1 d2 d3
    obtain ⟨wo, hwo⟩ : ∃ wo, wo = w2.alloc (.cells #[.slice x0 D.first.length y0, .slice x1 D.goal.length y1, .slice x2 D.made.length y2, .slice x3 D.now.length y3] 38) := ⟨_, rfl⟩
    have KO : Hid (Blk w2.heap.size (.cells #[.slice x0 D.first.length y0, .slice x1 D.goal.length y1, .slice x2 D.made.length y2, .slice x3 D.now.length y3] 38) wo) := by rw [hwo]; exact Lib.hid (Blk.new w2 _)
    have hbo : Below w2.heap.size w2 wo := by rw [hwo]; exact (Below.refl _ _).alloc (Nat.le_refl _) _
    have hso : wo.heap.size = w2.heap.size + 1 := by rw [hwo]; simp
    have HWO := Lib.hid hwo
    replace HB := Lib.hid (HB.out.trans (hbo.mono (by omega)))
    replace K3 := Lib.hid (K3.out.below hbo (by omega))
    replace HL := Lib.hid (SlA.below HL.out hbo (by omega))
    replace HO2 := Lib.hid (HO2.out.below hbo (Nat.le_refl _))
    clear hwo hbo
    have hgl : w.heap.size + 2 ≤ w2.heap.size := by omega
    go_wp2_with (rw [← HWO.out])
    go_loopw [7, 8] (fun n i wr => ∃ (k : Nat) (D' : Dsk) (m : Int) (a' b' c' d' : Value) (l2 h2 : Nat), k ≤ l.length ∧ n = .int .i64 m ∧ i = .int .i64 k ∧ Hid ((D', m) = runA D (l.take k) ∧ DeskOwn l2 h2 wr a' b' c' d' D' ∧ w.heap.size + 2 ≤ l2 ∧ h2 ≤ wr.heap.size ∧ Blk w2.heap.size (.cells #[a', b', c', d'] 38) wr ∧ Blk (w.heap.size + 1) (.cells #[.slice none 0 0, .slice none 0 0, .slice none 0 0, .slice none 0 0] 38) wr ∧ Below w.heap.size w wr ∧ wo.heap.size ≤ wr.heap.size ∧ SlA lo' hi' wr (.slice va l.length vc) l)) (fun _ i _ => l.length - (intOf i).toNat)
    case atStart =>
      exact ⟨0, D, 0, _, _, _, _, _, _, by omega, rfl, rfl, Lib.hid ⟨rfl, HO2.out, by omega, by omega, KO.out, K3.out, HB.out, Nat.le_refl _, HL.out⟩⟩
    case round =>
      clear KO K3 HB HL HO2
      obtain ⟨k, D', m, a', b', c', d', l2, h2, hk, rfl, rfl, HQ⟩ := hrel
      have HP := Lib.hid HQ.out.1
      have HO := Lib.hid HQ.out.2.1
      have hl2 := HQ.out.2.2.1
      have hh2 := HQ.out.2.2.2.1
      have KO := Lib.hid HQ.out.2.2.2.2.1
      have K3 := Lib.hid HQ.out.2.2.2.2.2.1
      have HB := Lib.hid HQ.out.2.2.2.2.2.2.1
      have hsr := HQ.out.2.2.2.2.2.2.2.1
      have HL := Lib.hid HQ.out.2.2.2.2.2.2.2.2
      clear HQ
      have hsz := HB.out.size
      obtain ⟨n0, n1, n2, n3, n4, n5, n6, n7, e0, e1, e2, e3⟩ := HO.out.open
      subst e0 e1 e2 e3
      have HV' := Lib.hid (show deskV D' = true by have h := runA_valid HV.out (l.take k); rw [← HP.out] at h; exact h)
      have hms := deskV_size HV'.out
      have hmn : 0 ≤ m ∧ m ≤ 40 := by
        have h := runA_many D (l.take k)
        rw [← HP.out] at h
        simp at h
        omega
      obtain ⟨hmn1, hmn2⟩ := hmn
      by_cases hlt : k < l.length
      · obtain ⟨bb, off, rfl, _, hbh, hbs, g0, g1, g2, g3, g4⟩ := HL.out.get k hlt
        obtain ⟨A, hA⟩ : ∃ A, A = l[k] := ⟨_, rfl⟩
        rw [← hA] at g0 g1 g2 g3 g4
        have HST := Lib.hid (show stepA (D', m) A = runA D (l.take (k + 1)) by rw [hA, runA_snoc D l k hlt, ← HP.out])
        clear hA
        go_wp2_with fail
        have hlo := KO.out.lt
        have hbA : Below wr.heap.size wr wr.drew := Below.drew (Below.refl _ _)
        have hbB : Below wr.heap.size wr (wr.alloc (.cells #[.slice none 0 0, .slice none 0 0, .slice none 0 0, .slice none 0 0] 38)).drew := Below.drew ((Below.refl _ _).alloc (Nat.le_refl _) _)
        have hdA : wr.drew.heap.size = wr.heap.size := rfl
        have hdB : (wr.alloc (.cells #[.slice none 0 0, .slice none 0 0, .slice none 0 0, .slice none 0 0] 38)).drew.heap.size = wr.heap.size + 1 := by show (wr.alloc _).heap.size = _; simp
        have KNB : Hid (Blk wr.heap.size (.cells #[.slice none 0 0, .slice none 0 0, .slice none 0 0, .slice none 0 0] 38) (wr.alloc (.cells #[.slice none 0 0, .slice none 0 0, .slice none 0 0, .slice none 0 0] 38)).drew) := Lib.hid (Blk.new wr _)
        have HOA := Lib.hid (HO.out.below hbA (by omega))
        have HOB := Lib.hid (HO.out.below hbB (by omega))
        have HBA := Lib.hid (HB.out.trans (hbA.mono (by omega)))
        have HBB := Lib.hid (HB.out.trans (hbB.mono (by omega)))
        have KOA := Lib.hid (KO.out.below hbA (by omega))
        have KOB := Lib.hid (KO.out.below hbB (by omega))
        have K3A := Lib.hid (K3.out.below hbA (by omega))
        have K3B := Lib.hid (K3.out.below hbB (by omega))
        have HLA := Lib.hid (SlA.below HL.out hbA (by omega))
        have HLB := Lib.hid (SlA.below HL.out hbB (by omega))
        have hgs : ∀ w' : World, Below wr.heap.size wr w' → w'.cell? ⟨w2.heap.size, 0, none⟩ = some (.slice n0 D'.first.length n1) ∧ w'.cell? ⟨w2.heap.size, 1, none⟩ = some (.slice n2 D'.goal.length n3) ∧ w'.cell? ⟨w2.heap.size, 2, none⟩ = some (.slice n4 D'.made.length n5) ∧ w'.cell? ⟨w2.heap.size, 3, none⟩ = some (.slice n6 D'.now.length n7) ∧ w'.cell? ⟨bb, off + k * 5, none⟩ = some (.int .i64 A.kind) ∧ w'.cell? ⟨bb, off + k * 5 + 1, none⟩ = some (.int .i64 A.step.which) ∧ w'.cell? ⟨bb, off + k * 5 + 2, none⟩ = some (.bool A.step.back) ∧ w'.cell? ⟨bb, off + k * 5 + 3, none⟩ = some (.int .i64 A.step.at_) ∧ w'.cell? ⟨bb, off + k * 5 + 4, none⟩ = some (.int .i64 A.count) := fun w' hb => ⟨(KO.out.below hb (by omega)).cell 0, (KO.out.below hb (by omega)).cell 1, (KO.out.below hb (by omega)).cell 2, (KO.out.below hb (by omega)).cell 3, (hb.cell (p := ⟨bb, _, none⟩) hbs).trans g0, (hb.cell (p := ⟨bb, _, none⟩) hbs).trans g1, (hb.cell (p := ⟨bb, _, none⟩) hbs).trans g2, (hb.cell (p := ⟨bb, _, none⟩) hbs).trans g3, (hb.cell (p := ⟨bb, _, none⟩) hbs).trans g4⟩
        have hS := hgs wr (Below.refl _ _)
        have hSA := hgs _ hbA
        have hSB := hgs _ hbB
        have HGS := Lib.hid hgs
        clear hgs
        go_region_held3 (fun w' => w'.cell? ⟨w2.heap.size, 0, none⟩ = some (.slice n0 D'.first.length n1) ∧ w'.cell? ⟨w2.heap.size, 1, none⟩ = some (.slice n2 D'.goal.length n3) ∧ w'.cell? ⟨w2.heap.size, 2, none⟩ = some (.slice n4 D'.made.length n5) ∧ w'.cell? ⟨w2.heap.size, 3, none⟩ = some (.slice n6 D'.now.length n7) ∧ w'.cell? ⟨bb, off + k * 5, none⟩ = some (.int .i64 A.kind) ∧ w'.cell? ⟨bb, off + k * 5 + 1, none⟩ = some (.int .i64 A.step.which) ∧ w'.cell? ⟨bb, off + k * 5 + 2, none⟩ = some (.bool A.step.back) ∧ w'.cell? ⟨bb, off + k * 5 + 3, none⟩ = some (.int .i64 A.step.at_) ∧ w'.cell? ⟨bb, off + k * 5 + 4, none⟩ = some (.int .i64 A.count)) (first | assumption | go_keep) (first
          | (go_at_call 58; refine (spec_DeskDo _ _ _ _ _ _ D' A _ (by first | exact HOA.out.at | exact HOB.out.at) (by omega) (by omega)).mono ?_; rintro e3 w3 ⟨u0, u1, u2, u3, ok, rfl, ho3, hok, hb3⟩; obtain ⟨z0, z1, z2, z3, z4, z5, z6, z7, i0, i1, i2, i3⟩ := ho3.open; subst i0 i1 i2 i3; (have hz3 := hb3.size); (have hbr : Below wr.heap.size wr w3 := by first | exact hbA.trans (hb3.mono (by omega)) | exact hbB.trans (hb3.mono (by omega))); (have hS3 := HGS.out _ hbr); (try (have kn3 := KNB.out.below hb3 (by omega); have c0 := kn3.cell 0; have c1 := kn3.cell 1; have c2 := kn3.cell 2; have c3 := kn3.cell 3; have f0 := kn3.free 0; have f1 := kn3.free 1; have f2 := kn3.free 2; have f3 := kn3.free 3; have KN3 := Lib.hid kn3; clear kn3; have hS4 := HGS.out _ (Below.outside hbr (Outside.set4 wr.heap.size w3 (.slice z0 (deskDo D' A).1.first.length z1) (.slice z2 (deskDo D' A).1.goal.length z3) (.slice z4 (deskDo D' A).1.made.length z5) (.slice z6 (deskDo D' A).1.now.length z7)) (Nat.le_refl _) (by omega)))); (have HO3 := Lib.hid ho3); (have hSL := HGS.out _ (hbr.alloc (by omega) (.cells #[(.slice z0 (deskDo D' A).1.first.length z1), (.slice z2 (deskDo D' A).1.goal.length z3), (.slice z4 (deskDo D' A).1.made.length z5), (.slice z6 (deskDo D' A).1.now.length z7)] 38))); (have hSN := HGS.out _ (hbr.alloc (by omega) (.cells #[.slice none 0 0, .slice none 0 0, .slice none 0 0, .slice none 0 0] 38))); (have HOK := Lib.hid hok); (have HBR := Lib.hid hbr); clear hb3 ho3 hok hbr))
        · clear hSA hSB KNB HOA HOB HBA HBB KOA KOB K3A K3B HLA HLB hbA hbB
          clear hS g0 g1 g2 g3 g4 HGS
          obtain ⟨wn, hwn⟩ : ∃ wn, wn = w3.alloc (.cells #[(.slice z0 (deskDo D' A).1.first.length z1), (.slice z2 (deskDo D' A).1.goal.length z3), (.slice z4 (deskDo D' A).1.made.length z5), (.slice z6 (deskDo D' A).1.now.length z7)] 38) := ⟨_, rfl⟩
          simp only [← hwn]
          have hs3 := HBR.out.size
          have hbn : Below w3.heap.size w3 wn := by rw [hwn]; exact (Below.refl _ _).alloc (Nat.le_refl _) _
          have hsn : wn.heap.size = w3.heap.size + 1 := by rw [hwn]; simp
          have KN : Hid (Blk w3.heap.size (.cells #[(.slice z0 (deskDo D' A).1.first.length z1), (.slice z2 (deskDo D' A).1.goal.length z3), (.slice z4 (deskDo D' A).1.made.length z5), (.slice z6 (deskDo D' A).1.now.length z7)] 38) wn) := by rw [hwn]; exact Lib.hid (Blk.new w3 _)
          have hbw := HBR.out.trans (hbn.mono (by omega))
          replace HB := Lib.hid (HB.out.trans (hbw.mono (by omega)))
          replace KO := Lib.hid (KO.out.below hbw (by omega))
          replace K3 := Lib.hid (K3.out.below hbw (by omega))
          replace HL := Lib.hid (SlA.below HL.out hbw (by omega))
          replace HO := Lib.hid (HO.out.below hbw (by omega))
          replace HO3 := Lib.hid (HO3.out.below hbn (by omega))
          clear hbn hbw hS3 hSL hSN
          clear hwn
          have n0 := KN.out.cell 0
          have n1 := KN.out.cell 1
          have n2 := KN.out.cell 2
          have n3 := KN.out.cell 3
          cases ok
          · have HST2 := Lib.hid (show (D', m) = runA D (l.take (k + 1)) by rw [← HST.out]; simp [stepA, ← HOK.out, deskDo_no HV'.out HOK.out.symm])
            go_wp2
            go_roundw
            case rel =>
              exact ⟨k + 1, D', m, _, _, _, _, _, _, by omega, rfl, by go_num, Lib.hid ⟨HST2.out, HO.out, by omega, by omega, KO.out, K3.out, HB.out, by omega, HL.out⟩⟩
            case measure => simp [intOf]; omega
          · have HST2 := Lib.hid (show ((deskDo D' A).1, m + 1) = runA D (l.take (k + 1)) by rw [← HST.out]; simp [stepA, ← HOK.out])
            have f0 := KO.out.free 0
            have f1 := KO.out.free 1
            have f2 := KO.out.free 2
            have f3 := KO.out.free 3
            have c0 := KO.out.cell 0
            have c1 := KO.out.cell 1
            have c2 := KO.out.cell 2
            have c3 := KO.out.cell 3
            obtain ⟨wz, hwz⟩ : ∃ wz, wz = (((wn.setCell ⟨w2.heap.size, 0, none⟩ (.slice z0 (deskDo D' A).1.first.length z1)).setCell ⟨w2.heap.size, 1, none⟩ (.slice z2 (deskDo D' A).1.goal.length z3)).setCell ⟨w2.heap.size, 2, none⟩ (.slice z4 (deskDo D' A).1.made.length z5)).setCell ⟨w2.heap.size, 3, none⟩ (.slice z6 (deskDo D' A).1.now.length z7) := ⟨_, rfl⟩
            have KZ := KO.out.set4 (.slice z0 (deskDo D' A).1.first.length z1) (.slice z2 (deskDo D' A).1.goal.length z3) (.slice z4 (deskDo D' A).1.made.length z5) (.slice z6 (deskDo D' A).1.now.length z7)
            have hO := Outside.set4 (w2.heap.size) wn (.slice z0 (deskDo D' A).1.first.length z1) (.slice z2 (deskDo D' A).1.goal.length z3) (.slice z4 (deskDo D' A).1.made.length z5) (.slice z6 (deskDo D' A).1.now.length z7)
            rw [← hwz] at KZ hO
            have hsz := hO.size
            have HZ := Lib.hid (Below.outside HB.out hO (by omega) (by omega))
            have HOZ := Lib.hid hO
            have q0 := KZ.cell 0
            have q1 := KZ.cell 1
            have q2 := KZ.cell 2
            have q3 := KZ.cell 3
            have HKZ := Lib.hid KZ
            clear KZ hO
            go_wp2
            simp only [← hwz]
            clear hwz
            go_roundw
            case rel =>
              exact ⟨k + 1, (deskDo D' A).1, m + 1, _, _, _, _, _, _, by omega, by go_num, by go_num, Lib.hid ⟨HST2.out, HO3.out.outside HOZ.out (.inr (by omega)), by omega, by omega, HKZ.out, K3.out.outside HOZ.out (.inl (by omega)), HZ.out, by omega, SlA.outside HL.out HOZ.out (.inl (by omega))⟩⟩
            case measure => simp [intOf]; omega
        · clear hSA hSB KNB HOA HOB HBA HBB KOA KOB K3A K3B HLA HLB hbA hbB
          clear hS g0 g1 g2 g3 g4 HGS
          obtain ⟨wn, hwn⟩ : ∃ wn, wn = (((w3.setCell ⟨wr.heap.size, 0, none⟩ (.slice z0 (deskDo D' A).1.first.length z1)).setCell ⟨wr.heap.size, 1, none⟩ (.slice z2 (deskDo D' A).1.goal.length z3)).setCell ⟨wr.heap.size, 2, none⟩ (.slice z4 (deskDo D' A).1.made.length z5)).setCell ⟨wr.heap.size, 3, none⟩ (.slice z6 (deskDo D' A).1.now.length z7) := ⟨_, rfl⟩
          simp only [← hwn]
          have hs3 := HBR.out.size
          have hon : Outside wr.heap.size (wr.heap.size + 1) w3 wn := by rw [hwn]; exact Outside.set4 _ _ _ _ _ _
          have hsn := hon.size
          have KN : Hid (Blk wr.heap.size (.cells #[(.slice z0 (deskDo D' A).1.first.length z1), (.slice z2 (deskDo D' A).1.goal.length z3), (.slice z4 (deskDo D' A).1.made.length z5), (.slice z6 (deskDo D' A).1.now.length z7)] 38) wn) := by rw [hwn]; exact Lib.hid (KN3.out.set4 _ _ _ _)
          have hbw : Below wr.heap.size wr wn := Below.outside HBR.out hon (Nat.le_refl _) (by omega)
          replace HB := Lib.hid (HB.out.trans (hbw.mono (by omega)))
          replace KO := Lib.hid (KO.out.below hbw (by omega))
          replace K3 := Lib.hid (K3.out.below hbw (by omega))
          replace HL := Lib.hid (SlA.below HL.out hbw (by omega))
          replace HO := Lib.hid (HO.out.below hbw (by omega))
          replace HO3 := Lib.hid (HO3.out.outside hon (.inr (by omega)))
          clear hon hbw hS3 hSL hSN hS4 c0 c1 c2 c3 f0 f1 f2 f3 KN3
          clear hwn
          have n0 := KN.out.cell 0
          have n1 := KN.out.cell 1
          have n2 := KN.out.cell 2
          have n3 := KN.out.cell 3
          cases ok
          · have HST2 := Lib.hid (show (D', m) = runA D (l.take (k + 1)) by rw [← HST.out]; simp [stepA, ← HOK.out, deskDo_no HV'.out HOK.out.symm])
            go_wp2
            go_roundw
            case rel =>
              exact ⟨k + 1, D', m, _, _, _, _, _, _, by omega, rfl, by go_num, Lib.hid ⟨HST2.out, HO.out, by omega, by omega, KO.out, K3.out, HB.out, by omega, HL.out⟩⟩
            case measure => simp [intOf]; omega
          · have HST2 := Lib.hid (show ((deskDo D' A).1, m + 1) = runA D (l.take (k + 1)) by rw [← HST.out]; simp [stepA, ← HOK.out])
            have f0 := KO.out.free 0
            have f1 := KO.out.free 1
            have f2 := KO.out.free 2
            have f3 := KO.out.free 3
            have c0 := KO.out.cell 0
            have c1 := KO.out.cell 1
            have c2 := KO.out.cell 2
            have c3 := KO.out.cell 3
            obtain ⟨wz, hwz⟩ : ∃ wz, wz = (((wn.setCell ⟨w2.heap.size, 0, none⟩ (.slice z0 (deskDo D' A).1.first.length z1)).setCell ⟨w2.heap.size, 1, none⟩ (.slice z2 (deskDo D' A).1.goal.length z3)).setCell ⟨w2.heap.size, 2, none⟩ (.slice z4 (deskDo D' A).1.made.length z5)).setCell ⟨w2.heap.size, 3, none⟩ (.slice z6 (deskDo D' A).1.now.length z7) := ⟨_, rfl⟩
            have KZ := KO.out.set4 (.slice z0 (deskDo D' A).1.first.length z1) (.slice z2 (deskDo D' A).1.goal.length z3) (.slice z4 (deskDo D' A).1.made.length z5) (.slice z6 (deskDo D' A).1.now.length z7)
            have hO := Outside.set4 (w2.heap.size) wn (.slice z0 (deskDo D' A).1.first.length z1) (.slice z2 (deskDo D' A).1.goal.length z3) (.slice z4 (deskDo D' A).1.made.length z5) (.slice z6 (deskDo D' A).1.now.length z7)
            rw [← hwz] at KZ hO
            have hsz := hO.size
            have HZ := Lib.hid (Below.outside HB.out hO (by omega) (by omega))
            have HOZ := Lib.hid hO
            have q0 := KZ.cell 0
            have q1 := KZ.cell 1
            have q2 := KZ.cell 2
            have q3 := KZ.cell 3
            have HKZ := Lib.hid KZ
            clear KZ hO
            go_wp2
            simp only [← hwz]
            clear hwz
            go_roundw
            case rel =>
              exact ⟨k + 1, (deskDo D' A).1, m + 1, _, _, _, _, _, _, by omega, by go_num, by go_num, Lib.hid ⟨HST2.out, HO3.out.outside HOZ.out (.inr (by omega)), by omega, by omega, HKZ.out, K3.out.outside HOZ.out (.inl (by omega)), HZ.out, by omega, SlA.outside HL.out HOZ.out (.inl (by omega))⟩⟩
            case measure => simp [intOf]; omega

      · obtain rfl : k = l.length := by omega
        have HD := Lib.hid (show deskRun D l = (D', m) by rw [HR.out, HP.out, List.take_of_length_le (Nat.le_refl _)])
        have o0 := KO.out.cell 0
        have o1 := KO.out.cell 1
        have o2 := KO.out.cell 2
        have o3 := KO.out.cell 3
        clear hlt
        have f0 := K3.out.free 0
        have f1 := K3.out.free 1
        have f2 := K3.out.free 2
        have f3 := K3.out.free 3
        have c0 := K3.out.cell 0
        have c1 := K3.out.cell 1
        have c2 := K3.out.cell 2
        have c3 := K3.out.cell 3
        obtain ⟨wz, hwz⟩ : ∃ wz, wz = (((wr.setCell ⟨w.heap.size + 1, 0, none⟩ (.slice n0 D'.first.length n1)).setCell ⟨w.heap.size + 1, 1, none⟩ (.slice n2 D'.goal.length n3)).setCell ⟨w.heap.size + 1, 2, none⟩ (.slice n4 D'.made.length n5)).setCell ⟨w.heap.size + 1, 3, none⟩ (.slice n6 D'.now.length n7) := ⟨_, rfl⟩
        have KZ := K3.out.set4 (.slice n0 D'.first.length n1) (.slice n2 D'.goal.length n3) (.slice n4 D'.made.length n5) (.slice n6 D'.now.length n7)
        have hO := Outside.set4 (w.heap.size + 1) wr (.slice n0 D'.first.length n1) (.slice n2 D'.goal.length n3) (.slice n4 D'.made.length n5) (.slice n6 D'.now.length n7)
        rw [← hwz] at KZ hO
        have hsz := hO.size
        have HZ := Lib.hid (Below.outside HB.out hO (by omega) (by omega))
        have HOZ := Lib.hid hO
        have q0 := KZ.cell 0
        have q1 := KZ.cell 1
        have q2 := KZ.cell 2
        have q3 := KZ.cell 3
        have HKZ := Lib.hid KZ
        clear KZ hO
        go_wp2
        simp only [← hwz]
        clear hwz

        refine bodyPost_ret (v := .tuple #[aggD (.slice n0 D'.first.length n1) (.slice n2 D'.goal.length n3) (.slice n4 D'.made.length n5) (.slice n6 D'.now.length n7), .int .i64 m]) (by simp [results, Tryz.results20, go_sem, q0, q1, q2, q3]) rfl (RetDI.mk _ _ _ _ _ rfl ⟨?_, ?_, HZ.out⟩)
        · rw [HD.out]
          exact (HO.out.outside HOZ.out (.inr (by omega))).wide (by omega) (by omega)
        · rw [HD.out]

  · have HD := Lib.hid (show deskRun D l = (Dsk.none, 0) by rw [deskRun, if_neg (by rw [← HDV.out]; exact hc)])
    have hcs : dv = false ∨ dv = true ∧ (40 : Int) < (l.length : Int) := by
      cases dv
      · exact .inl rfl
      · exact .inr ⟨rfl, by simp at hc; omega⟩
    clear hc
    rcases hcs with rfl | ⟨rfl, h40⟩
    all_goals (
      have f0 := K3.out.free 0
      have f1 := K3.out.free 1
      have f2 := K3.out.free 2
      have f3 := K3.out.free 3
      have c0 := K3.out.cell 0
      have c1 := K3.out.cell 1
      have c2 := K3.out.cell 2
      have c3 := K3.out.cell 3
      obtain ⟨wz, hwz⟩ : ∃ wz, wz = (((w1.setCell ⟨w.heap.size + 1, 0, none⟩ (.slice none 0 0)).setCell ⟨w.heap.size + 1, 1, none⟩ (.slice none 0 0)).setCell ⟨w.heap.size + 1, 2, none⟩ (.slice none 0 0)).setCell ⟨w.heap.size + 1, 3, none⟩ (.slice none 0 0) := ⟨_, rfl⟩
      have KZ := K3.out.set4 (.slice none 0 0) (.slice none 0 0) (.slice none 0 0) (.slice none 0 0)
      have hO := Outside.set4 (w.heap.size + 1) w1 (.slice none 0 0) (.slice none 0 0) (.slice none 0 0) (.slice none 0 0)
      rw [← hwz] at KZ hO
      have hsz := hO.size
      have HZ := Lib.hid (Below.outside HB.out hO (by omega) (by omega))
      have HOZ := Lib.hid hO
      have q0 := KZ.cell 0
      have q1 := KZ.cell 1
      have q2 := KZ.cell 2
      have q3 := KZ.cell 3
      have HKZ := Lib.hid KZ
      clear KZ hO
      go_wp2
      simp only [← hwz]
      clear hwz

      refine bodyPost_ret (v := .tuple #[aggD (.slice none 0 0) (.slice none 0 0) (.slice none 0 0) (.slice none 0 0), .int .i64 0]) (by simp [results, Tryz.results20, go_sem, q0, q1, q2, q3]) rfl (RetDI.mk _ _ _ _ _ rfl ⟨?_, ?_, HZ.out⟩)
      · rw [HD.out]
        exact DeskOwn.nils _ _ HZ.out.size _
      · rw [HD.out]
)
end Go.Proofs.YtadihfjmgckdaaaGreatDoor
