/-
  Texts of walks and plain lemmas for this seat; no condition.
-/
import Derived.Test.YtipbanhelhidnaaGreatDoorDDraws
import Derived.Test.YtipbanhelhidnaaGreatDoorGR
import Derived.Laws.OwnMore
import Derived.Deep.RegionLaw
import Derived.Deep.RegionHeld3
import Derived.Deep.DrawnRows
namespace Go.Proofs.YtipbanhelhidnaaGreatDoor
open Go.RowKit
set_option linter.unusedVariables false

theorem Outside.any {lo hi : Nat} {w w' : World} (h : Outside 0 0 w w') : Outside lo hi w w' := ⟨h.os, h.tape, h.output, h.size, fun k hk _ => h.block k hk (.inr (Nat.zero_le _))⟩
theorem zeros_acs : (madeCells (Value.agg #[.int .i64 0, .int .i64 0, .bool false, .int .i64 0, .int .i64 0]).cells (41 * 5)).toList = acs (List.replicate 41 ⟨0, ⟨0, false, 0⟩, 0⟩) := by kernel_rfl
theorem make_acts (w : World) : ∃ w', (Instr.makeSlice 24 (.int .i64 41) (.int .i64 41)).run Tryz.prog w = .ok (.slice (some ⟨w.heap.size, 0, none⟩) 41 41) w' ∧ SlA w.heap.size w'.heap.size w' (.slice (some ⟨w.heap.size, 0, none⟩) 41 41) (List.replicate 41 ⟨0, ⟨0, false, 0⟩, 0⟩) ∧ Outside 0 0 w w' := by
  obtain ⟨i, hi0, hz, hsize, hb⟩ := info_parts info_act
  obtain ⟨w', h1, h2, h3⟩ := run_makeSlice_full (P := Tryz.prog) w w.heap.size 24 41 i _ 5 Tryz.underlying24 hi0 hz hsize .i64 .i64 41 (by decide) (by rw [hb]; decide) (by decide) (Nat.le_refl _)
  refine ⟨w', h1, ?_, grown_outside h3 (by simp)⟩
  rw [zeros_acs] at h2
  exact (Own.of_row h2).sl

set_option maxRecDepth 100000 in
set_option maxHeartbeats 6400000 in
theorem DrawDeskRun_any (v : Value) (xs : List Int) (w : World) (h : SlB 0 w.heap.size w v xs) :
    Calls Tryz.prog 8 #[v] w fun e w' => ∃ (a b c_ d vl : Value) (D : Dsk) (L : List Ac), e = .returned (.tuple #[aggD a b c_ d, vl]) ∧ Below w.heap.size w w' ∧ DeskAt 0 w'.heap.size w' a b c_ d D ∧ D.size ≤ 1000 ∧ SlA 0 w'.heap.size w' vl L ∧ L.length ≤ 41 := by
  obtain ⟨w0, hw0⟩ : ∃ w0, w0 = w.alloc (.cells #[.slice none 0 0, .slice none 0 0, .slice none 0 0, .slice none 0 0] 31) := ⟨_, rfl⟩
  obtain ⟨hb0, KS_, hs0⟩ := box_facts2 hw0
  have KS := Lib.hid KS_
  have HX := Lib.hid (SlB.wide (SlB.below h hb0 (Nat.le_refl _)) hb0.size)
  have HW := Lib.hid hb0
  have HW0 := Lib.hid hw0
  clear h hb0 KS_ hw0
  go_enter Tryz.func8, Tryz.ntmps8
  go_upto_region 1 with (rw [← HW0.out])
  try rw [← HW0.out]
  clear HW0
  go_wp2_with fail
  refine (l20Open_any _ xs _ HX.out).mono ?_
  rintro e w1 ⟨_, rfl, g, rfl, hg, hb, hr⟩
  have hs1 := hb.size
  replace HW := Lib.hid (HW.out.trans (hb.mono (by omega)))
  replace KS := Lib.hid (KS.out.below hb (by omega))
  have HR := Lib.hid hr
  have hgl1 := hr.lt
  clear hb hr HX
  go_wp2_with fail
  refine (l20Desk_any g 0 12 _ HR.out (by omega) (by omega)).mono ?_
  rintro e w2 ⟨y0, y1, y2, y3, rfl, D, od_, hds, h_, r_⟩
  have hs2 := h_.size
  replace HW := Lib.hid (Below.outside HW.out h_ (by omega) (by omega))
  replace KS := Lib.hid (KS.out.outside h_ (.inl (by omega)))
  replace HR := Lib.hid r_
  have OD := Lib.hid od_
  clear h_ r_ od_
  obtain ⟨p0, p1, p2, p3, p4, p5, p6, p7, i0, i1, i2, i3, l0, l1, l2, l3⟩ := OD.out.shapes
  subst i0 i1 i2 i3
  clear l0 l1 l2 l3
  obtain ⟨w3, hw3⟩ : ∃ w3, w3 = w2.alloc (.cells #[(.slice p0 D.first.length p1), (.slice p2 D.goal.length p3), (.slice p4 D.made.length p5), (.slice p6 D.now.length p7)] 31) := ⟨_, rfl⟩
  obtain ⟨hb3, KD_, hs3⟩ := box_facts2 hw3
  have KD := Lib.hid KD_
  replace HW := Lib.hid (HW.out.trans (hb3.mono (by omega)))
  replace KS := Lib.hid (KS.out.below hb3 (by omega))
  replace OD := Lib.hid (OD.out.below hb3 (Nat.le_refl _))
  replace HR := Lib.hid (HR.out.below hb3 HR.out.lt)
  obtain ⟨gd, hgd⟩ : ∃ x, x = w2.heap.size := ⟨_, rfl⟩
  rw [← hgd] at KD hs3 hs2
  have OD' : Hid (DeskAt w1.heap.size gd w3 (.slice p0 D.first.length p1) (.slice p2 D.goal.length p3) (.slice p4 D.made.length p5) (.slice p6 D.now.length p7) D) := Lib.hid (hgd ▸ OD.out)
  clear OD
  have HW3 := Lib.hid hw3
  clear hb3 KD_ hw3
  go_wp2_with (rw [← HW3.out])
  try rw [← HW3.out]
  simp only [← hgd]
  clear HW3 hgd
  refine (odd_any g _ _ _ HR.out (by omega) (by omega)).mono ?_
  rintro e w4 ⟨b, rfl, h_, r_⟩
  have hs4 := h_.size
  replace HW := Lib.hid (Below.outside HW.out h_ (by omega) (by omega))
  replace KS := Lib.hid (KS.out.outside h_ (.inl (by omega)))
  replace KD := Lib.hid (KD.out.outside h_ (.inr (by omega)))
  replace OD' := Lib.hid (OD'.out.outside h_ (.inr (by omega)))
  replace HR := Lib.hid r_
  clear h_ r_
  have O4 := Outside.set4 w.heap.size w4.drew (.slice p0 D.first.length p1) (.slice p2 D.goal.length p3) (.slice p4 D.made.length p5) (.slice p6 D.now.length p7)
  have hdz : w4.drew.heap.size = w4.heap.size := rfl
  obtain ⟨wy, hwy⟩ : ∃ wy, wy = ((((w4.drew.setCell ⟨w.heap.size, 0, none⟩ (.slice p0 D.first.length p1)).setCell ⟨w.heap.size, 1, none⟩ (.slice p2 D.goal.length p3)).setCell ⟨w.heap.size, 2, none⟩ (.slice p4 D.made.length p5)).setCell ⟨w.heap.size, 3, none⟩ (.slice p6 D.now.length p7)) := ⟨_, rfl⟩
  rw [← hwy] at O4
  have hz4 := O4.size
  have HSY := Lib.hid ((KS.out.drew).set4 (.slice p0 D.first.length p1) (.slice p2 D.goal.length p3) (.slice p4 D.made.length p5) (.slice p6 D.now.length p7))
  rw [← hwy] at HSY
  have k_0 := (KD.out.drew).cell 0
  have k_1 := (KD.out.drew).cell 1
  have k_2 := (KD.out.drew).cell 2
  have k_3 := (KD.out.drew).cell 3
  have ky := Blk.outside (KD.out.drew) O4 (.inr (by omega))
  have KDY := Lib.hid ky
  have y_0 := ky.cell 0
  have y_1 := ky.cell 1
  have y_2 := ky.cell 2
  have y_3 := ky.cell 3
  have s_0 := (KS.out.drew).cell 0
  have s_1 := (KS.out.drew).cell 1
  have s_2 := (KS.out.drew).cell 2
  have s_3 := (KS.out.drew).cell 3
  have t_0 := (KS.out.drew).free 0
  have t_1 := (KS.out.drew).free 1
  have t_2 := (KS.out.drew).free 2
  have t_3 := (KS.out.drew).free 3
  have ODD := Lib.hid (OD'.out.outside (Outside.drewn (Outside.refl g (g + 1) w4)) (.inr (by omega)))
  have ODY := Lib.hid (DeskAt.outside ODD.out O4 (.inr (by omega)))
  have HRY := Lib.hid (Rd.past HR.out.drew KS.out.drew nil_no O4 (by omega))
  have HBY := Lib.hid (Below.outside (HW.out.drew) O4 (Nat.le_refl _) (by omega))
  have HWY := Lib.hid hwy
  clear hwy O4 ky
  cases b
  · go_upto_region 5 with fail
    go_region_held3 (fun w' => w'.cell? ⟨gd, 0, none⟩ = some (.slice p0 D.first.length p1) ∧ w'.cell? ⟨gd, 1, none⟩ = some (.slice p2 D.goal.length p3) ∧ w'.cell? ⟨gd, 2, none⟩ = some (.slice p4 D.made.length p5) ∧ w'.cell? ⟨gd, 3, none⟩ = some (.slice p6 D.now.length p7)) (first | with_reducible assumption | go_keep) (first
      | (go_at_call 26; refine (l20Acts_any g _ w1.heap.size gd _ _ _ _ D w4.drew HR.out.drew (by omega) ODD.out (by omega) (by omega) (by omega)).mono ?_; rintro e5 w5 ⟨vl, rfl, L, oL, hlL, h_, r_⟩; (have hs5 := h_.size); (have ks5 := Blk.outside KS.out.drew h_ (.inl (by omega))); (have kd5 := Blk.outside KD.out.drew h_ (.inr (by omega))); (have a_0 := ks5.cell 0); (have a_1 := ks5.cell 1); (have a_2 := ks5.cell 2); (have a_3 := ks5.cell 3); (have b_0 := ks5.free 0); (have b_1 := ks5.free 1); (have b_2 := ks5.free 2); (have b_3 := ks5.free 3); (have e_0 := kd5.cell 0); (have e_1 := kd5.cell 1); (have e_2 := kd5.cell 2); (have e_3 := kd5.cell 3); (have kda := Blk.outside kd5 (Outside.set4 w.heap.size w5 (.slice p0 D.first.length p1) (.slice p2 D.goal.length p3) (.slice p4 D.made.length p5) (.slice p6 D.now.length p7)) (.inr (by omega))); (have m_0 := kda.cell 0); (have m_1 := kda.cell 1); (have m_2 := kda.cell 2); (have m_3 := kda.cell 3); (have KS5 := Lib.hid ks5); (have OL := Lib.hid oL.sl); (have OD5 := Lib.hid (ODD.out.outside h_ (.inr (by omega)))); (have HB5 := Lib.hid (Below.outside HW.out.drew h_ (by omega) (by omega))); clear ks5 kd5 kda h_ r_ oL)
      | (rw [← HWY.out]; refine (l20Acts_any g _ w1.heap.size gd _ _ _ _ D wy HRY.out (by omega) ODY.out (by omega) (by omega) (by omega)).mono ?_; rintro e5 w5 ⟨vl, rfl, L, oL, hlL, h_, r_⟩; (have hs5 := h_.size); (have ks5 := Blk.outside HSY.out h_ (.inl (by omega))); (have kd5 := Blk.outside KDY.out h_ (.inr (by omega))); (have e_0 := kd5.cell 0); (have e_1 := kd5.cell 1); (have e_2 := kd5.cell 2); (have e_3 := kd5.cell 3); (have KS5 := Lib.hid ks5); (have OL := Lib.hid oL.sl); (have OD5 := Lib.hid (ODY.out.outside h_ (.inr (by omega)))); (have HB5 := Lib.hid (Below.outside HBY.out h_ (by omega) (by omega))); clear ks5 kd5 h_ r_ oL)
      | (rw [← HWY.out]))
    all_goals (
      obtain ⟨wa, hwa⟩ : ∃ wa, wa = ((((w5.setCell ⟨w.heap.size, 0, none⟩ (.slice p0 D.first.length p1)).setCell ⟨w.heap.size, 1, none⟩ (.slice p2 D.goal.length p3)).setCell ⟨w.heap.size, 2, none⟩ (.slice p4 D.made.length p5)).setCell ⟨w.heap.size, 3, none⟩ (.slice p6 D.now.length p7)) := ⟨_, rfl⟩
      have OA := Outside.set4 w.heap.size w5 (.slice p0 D.first.length p1) (.slice p2 D.goal.length p3) (.slice p4 D.made.length p5) (.slice p6 D.now.length p7)
      have KSA := KS5.out.set4 (.slice p0 D.first.length p1) (.slice p2 D.goal.length p3) (.slice p4 D.made.length p5) (.slice p6 D.now.length p7)
      rw [← hwa] at OA KSA
      have hs_a := OA.size
      have zs0 := KSA.cell 0
      have zs1 := KSA.cell 1
      have zs2 := KSA.cell 2
      have zs3 := KSA.cell 3
      have HE := Lib.hid (Below.outside HB5.out OA (Nat.le_refl _) (by omega))
      have ODZ := Lib.hid ((OD5.out.outside OA (.inr (by omega))).wide (Nat.zero_le _) (show _ ≤ wa.heap.size by omega))
      have SAZ := Lib.hid ((SlA.outside OL.out OA (.inr (by omega))).wide (Nat.zero_le _) (show _ ≤ wa.heap.size by omega))
      clear OA KSA
      simp only [← hwa]
      clear hwa
      go_wp2_with fail
      refine bodyPost_ret (v := .tuple #[.agg #[(.slice p0 D.first.length p1), (.slice p2 D.goal.length p3), (.slice p4 D.made.length p5), (.slice p6 D.now.length p7)], vl]) (by simp [results, Tryz.results8, go_sem, zs0, zs1, zs2, zs3]) rfl ⟨_, _, _, _, _, D, L, rfl, HE.out, ODZ.out, hds, SAZ.out, by omega⟩)
  · go_upto_region 4 with fail
    obtain ⟨wq, hq1, hq2, hq3⟩ := make_acts w4.drew
    have hqz := hq3.size
    have kq := Blk.outside (KD.out.drew) hq3 (.inr (Nat.zero_le _))
    have sq := Blk.outside (KS.out.drew) hq3 (.inr (Nat.zero_le _))
    have kq_0 := kq.cell 0
    have kq_1 := kq.cell 1
    have kq_2 := kq.cell 2
    have kq_3 := kq.cell 3
    have sq_0 := sq.cell 0
    have sq_1 := sq.cell 1
    have sq_2 := sq.cell 2
    have sq_3 := sq.cell 3
    have tq_0 := sq.free 0
    have tq_1 := sq.free 1
    have tq_2 := sq.free 2
    have tq_3 := sq.free 3
    have KSQ := Lib.hid sq
    have HQ := Lib.hid (And.intro hq2 hq3)
    clear kq sq hq2 hq3
    have u_0 := KS.out.cell 0
    have u_1 := KS.out.cell 1
    have u_2 := KS.out.cell 2
    have u_3 := KS.out.cell 3
    have v_0 := KS.out.free 0
    have v_1 := KS.out.free 1
    have v_2 := KS.out.free 2
    have v_3 := KS.out.free 3
    have OB := Outside.set4 w.heap.size w4 (.slice p0 D.first.length p1) (.slice p2 D.goal.length p3) (.slice p4 D.made.length p5) (.slice p6 D.now.length p7)
    have KB := KS.out.set4 (.slice p0 D.first.length p1) (.slice p2 D.goal.length p3) (.slice p4 D.made.length p5) (.slice p6 D.now.length p7)
    obtain ⟨wr, hr1, hr2, hr3⟩ := make_acts (((((w4.setCell ⟨w.heap.size, 0, none⟩ (.slice p0 D.first.length p1)).setCell ⟨w.heap.size, 1, none⟩ (.slice p2 D.goal.length p3)).setCell ⟨w.heap.size, 2, none⟩ (.slice p4 D.made.length p5)).setCell ⟨w.heap.size, 3, none⟩ (.slice p6 D.now.length p7)).drew)
    have KR := Lib.hid (Blk.outside (KB.drew) hr3 (.inr (Nat.zero_le _)))
    have HRR := Lib.hid (And.intro hr2 (And.intro hr3 OB))
    have hrz := hr3.size
    have hbz := OB.size
    clear hr2 hr3 OB KB
    go_region
    · have zs0 := KR.out.cell 0
      have zs1 := KR.out.cell 1
      have zs2 := KR.out.cell 2
      have zs3 := KR.out.cell 3
      have OT := Lib.hid (HRR.out.2.2.drw.trans (HRR.out.2.1.any (lo := w.heap.size) (hi := w.heap.size + 1)))
      have hot := OT.out.size
      have hY : (((((w4.setCell ⟨w.heap.size, 0, none⟩ (.slice p0 D.first.length p1)).setCell ⟨w.heap.size, 1, none⟩ (.slice p2 D.goal.length p3)).setCell ⟨w.heap.size, 2, none⟩ (.slice p4 D.made.length p5)).setCell ⟨w.heap.size, 3, none⟩ (.slice p6 D.now.length p7)).drew).heap.size = w4.heap.size := by simp [World.setCell, World.drew]
      have hSA := HRR.out.1
      rw [hY] at hSA
      have HSA := Lib.hid hSA
      clear hSA hY
      go_wp2_with fail
      refine bodyPost_ret (v := .tuple #[.agg #[(.slice p0 D.first.length p1), (.slice p2 D.goal.length p3), (.slice p4 D.made.length p5), (.slice p6 D.now.length p7)], .slice (some ⟨w4.heap.size, 0, none⟩) 41 41]) (by simp [results, Tryz.results8, go_sem, zs0, zs1, zs2, zs3]) rfl ⟨_, _, _, _, _, D, List.replicate 41 ⟨0, ⟨0, false, 0⟩, 0⟩, rfl, ?_, ?_, hds, ?_, ?_⟩
      · exact Below.outside HW.out OT.out (Nat.le_refl _) (by omega)
      · exact (OD'.out.outside OT.out (.inr (by omega))).wide (Nat.zero_le _) (by omega)
      · exact SlA.wide HSA.out (Nat.zero_le _) (Nat.le_refl _)
      · simp
    · obtain ⟨wa, hwa⟩ : ∃ wa, wa = ((((wq.setCell ⟨w.heap.size, 0, none⟩ (.slice p0 D.first.length p1)).setCell ⟨w.heap.size, 1, none⟩ (.slice p2 D.goal.length p3)).setCell ⟨w.heap.size, 2, none⟩ (.slice p4 D.made.length p5)).setCell ⟨w.heap.size, 3, none⟩ (.slice p6 D.now.length p7)) := ⟨_, rfl⟩
      have OA := Outside.set4 w.heap.size wq (.slice p0 D.first.length p1) (.slice p2 D.goal.length p3) (.slice p4 D.made.length p5) (.slice p6 D.now.length p7)
      have KSA := KSQ.out.set4 (.slice p0 D.first.length p1) (.slice p2 D.goal.length p3) (.slice p4 D.made.length p5) (.slice p6 D.now.length p7)
      rw [← hwa] at OA KSA
      have hs_a := OA.size
      have zs0 := KSA.cell 0
      have zs1 := KSA.cell 1
      have zs2 := KSA.cell 2
      have zs3 := KSA.cell 3
      have HE := Lib.hid (Below.outside (Below.outside HW.out.drew (HQ.out.2.any (lo := w.heap.size) (hi := w.heap.size)) (Nat.le_refl _) (by omega)) OA (Nat.le_refl _) (by omega))
      have ODZ := Lib.hid (((ODD.out.outside HQ.out.2 (.inr (Nat.zero_le _))).outside OA (.inr (by omega))).wide (Nat.zero_le _) (show _ ≤ wa.heap.size by omega))
      have SAZ := Lib.hid ((SlA.outside HQ.out.1 OA (.inr (by omega))).wide (Nat.zero_le _) (show _ ≤ wa.heap.size by omega))
      clear OA KSA
      simp only [← hwa]
      clear hwa
      go_wp2_with fail
      refine bodyPost_ret (v := .tuple #[.agg #[(.slice p0 D.first.length p1), (.slice p2 D.goal.length p3), (.slice p4 D.made.length p5), (.slice p6 D.now.length p7)], .slice (some ⟨w4.heap.size, 0, none⟩) 41 41]) (by simp [results, Tryz.results8, go_sem, zs0, zs1, zs2, zs3]) rfl ⟨_, _, _, _, _, D, _, rfl, HE.out, ODZ.out, hds, SAZ.out, by simp⟩
end Go.Proofs.YtipbanhelhidnaaGreatDoor
