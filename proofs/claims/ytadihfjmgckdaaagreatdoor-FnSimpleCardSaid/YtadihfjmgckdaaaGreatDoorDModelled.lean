/-
  Texts of walks and plain lemmas for this seat; no condition.
-/
import Derived.Test.YtadihfjmgckdaaaGreatDoorDModel
import Derived.Test.YtadihfjmgckdaaaGreatDoorGL
import Derived.Test.YtadihfjmgckdaaaGreatDoorGJ
import Derived.Deep.RegionLaw
import Derived.Deep.RegionHeld3
import Derived.Deep.DrawnRows
namespace Go.Proofs.YtadihfjmgckdaaaGreatDoor
open Go.RowKit
set_option linter.unusedVariables false

theorem SlB.below {lo hi B : Nat} {w w' : World} {v : Value} {xs : List Int} (h : SlB lo hi w v xs) (hb : Below B w w') (hB : hi ≤ B) : SlB lo hi w' v xs := ⟨h.1.below hb hB, h.2⟩
theorem SlB.wide {lo hi hi' : Nat} {w : World} {v : Value} {xs : List Int} (h : SlB lo hi w v xs) (hh : hi ≤ hi') : SlB lo hi' w v xs := ⟨h.1.wide (Nat.le_refl _) hh, h.2⟩

set_option maxRecDepth 100000 in
set_option maxHeartbeats 12800000 in
theorem l20Modelled_any (g c : Nat) (w : World) (h : Rd g w c) (hc : c ≤ 1000000) :
    Calls Tryz.prog 47 #[.pointer (some ⟨g, 0, none⟩)] w (fun e w' => ∃ (M : Mo) (va ve : Value) (es : List Int) (z : Int), e = .returned (.tuple #[aggMo M va, ve, .int .i64 z]) ∧ ModelR w w' M va ∧ SlI w.heap.size w'.heap.size w' ve es ∧ es.length ≤ 44 ∧ Outside g (g + 1) w w' ∧ Rd g w' (c + 2000)) := by
  have hg := h.lt
  obtain ⟨w0, hw0⟩ : ∃ w0, w0 = w.alloc (.cells #[.int .i64 0, .int .i64 0, .int .i64 0, .slice none 0 0] 31) := ⟨_, rfl⟩
  obtain ⟨hb0, KS_, hs0⟩ := box_facts2 hw0
  have KS := Lib.hid KS_
  have HR := Lib.hid (h.below hb0 hg)
  have HO := Lib.hid ((Outside.refl g (g + 1) w).below hb0 (Nat.le_refl _))
  have HW0 := Lib.hid hw0
  clear h hb0 KS_ hw0
  go_enter Tryz.func47, Tryz.ntmps47
  go_upto_region 1 with (rw [← HW0.out])
  try rw [← HW0.out]
  clear HW0
  go_wp2_with fail
  refine (l20Model_any g c 12 _ HR.out (by omega) (by omega)).mono ?_
  rintro e w1 ⟨v1, rfl, ⟨n, p, q, acts⟩, va, rfl, hM, h_, r_⟩
  have hs1 := h_.size
  replace HO := Lib.hid (HO.out.trans h_)
  replace KS := Lib.hid (KS.out.outside h_ (.inr (by omega)))
  have hM0 := hM
  obtain ⟨ma, mc, rfl, _, _⟩ := hM0.1.shape
  obtain ⟨w2, hw2⟩ : ∃ w2, w2 = w1.alloc (.cells #[.int .i64 n, .int .i64 p, .int .i64 q, .slice ma acts.length mc] 31) := ⟨_, rfl⟩
  obtain ⟨hb2, KM_, hs2⟩ := box_facts2 hw2
  replace HO := Lib.hid (HO.out.below hb2 HO.out.size)
  replace HR := Lib.hid (r_.below hb2 r_.lt)
  replace KS := Lib.hid (KS.out.below hb2 (by omega))
  have KM := Lib.hid KM_
  have HM := Lib.hid (hM.below hb2)
  have HW2 := Lib.hid hw2
  have hgl := HR.out.lt
  clear h_ r_ hM hM0 hb2 KM_ hw2
  go_upto_region 2 with (rw [← HW2.out])
  try rw [← HW2.out]
  obtain ⟨gM, hgM⟩ : ∃ x, x = w1.heap.size := ⟨_, rfl⟩
  rw [← hgM] at KM
  simp only [← hgM]
  have hgM1 : gM < w2.heap.size := by omega
  have hgM2 : w0.heap.size ≤ gM := by omega
  clear HW2 hgM
  have hdz : w2.drew.heap.size = w2.heap.size := rfl
  have k0 := KM.out.drew.cell 0
  have k1 := KM.out.drew.cell 1
  have k2 := KM.out.drew.cell 2
  have k3 := KM.out.drew.cell 3
  obtain ⟨sh, hsh, hsh2⟩ : ∃ sh : Nat, min (max n 1) 5 = (sh : Int) ∧ sh ≤ 5 := ⟨(min (max n 1) 5).toNat, by omega, by omega⟩
  go_region_held3 (fun w' => w'.cell? ⟨gM, 0, none⟩ = some (.int .i64 n) ∧ w'.cell? ⟨gM, 1, none⟩ = some (.int .i64 p) ∧ w'.cell? ⟨gM, 2, none⟩ = some (.int .i64 q) ∧ w'.cell? ⟨gM, 3, none⟩ = some (.slice ma acts.length mc)) (first | with_reducible assumption | go_keep) (first
    | (go_at_call 92; refine (l20Prog_all g _ 6 12 w2.drew HR.out.drew (by omega) (by omega) (by omega) (by omega)).mono ?_; rintro e3 w3 ⟨v3, rfl, es, o_, le_, h_, r_⟩; (have hs3 := h_.size); obtain ⟨ea, ec, rfl, _, _⟩ := Sl.shape o_.sl; (have k3_ := Blk.outside KM.out.drew h_ (.inr (by omega))); (have a0 := k3_.cell 0); (have a1 := k3_.cell 1); (have a2 := k3_.cell 2); (have a3 := k3_.cell 3); (have K3 := Lib.hid k3_); (have OE := Lib.hid o_.sl); (have R3 := Lib.hid r_); (have O3 := Lib.hid (HO.out.drw.trans h_)); (have M3 := Lib.hid h_); (have s3_ := Blk.outside KS.out.drew h_ (.inr (by omega))); (have x3s0 := s3_.cell 0); (have x3f0 := s3_.free 0); (have x3s1 := s3_.cell 1); (have x3f1 := s3_.free 1); (have x3s2 := s3_.cell 2); (have x3f2 := s3_.free 2); (have x3s3 := s3_.cell 3); (have x3f3 := s3_.free 3); (have S3 := Lib.hid s3_); clear s3_ k3_ o_ r_ h_)
    | (go_at_call_of 67 (Value.int .i64 40); refine (pick_any g _ 40 _ R5.out (by omega)).mono ?_; rintro e6 w6 ⟨q3, rfl, i6_, h_, r_⟩; obtain ⟨q3a, q3b⟩ := i6_.lt (by omega); (have hs6 := h_.size); (have k6_ := Blk.outside K5.out h_ (.inr (by omega))); (have d0 := k6_.cell 0); (have d1 := k6_.cell 1); (have d2 := k6_.cell 2); (have d3 := k6_.cell 3); (have O6 := Lib.hid (O5.out.trans h_)); (have M6 := Lib.hid (M5.out.trans h_)); (have E6 := Lib.hid (E5.out.outside h_ (.inr (by omega)))); (have R6 := Lib.hid r_); (have s6_ := Blk.outside S5.out h_ (.inr (by omega))); (have x6s0 := s6_.cell 0); (have x6f0 := s6_.free 0); (have x6s1 := s6_.cell 1); (have x6f1 := s6_.free 1); (have x6s2 := s6_.cell 2); (have x6f2 := s6_.free 2); (have x6s3 := s6_.cell 3); (have x6f3 := s6_.free 3); (have S6 := Lib.hid s6_); (have z6_ := Blk.outside k6_ (Outside.set4 w.heap.size w6 (.int .i64 n) (.int .i64 p) (.int .i64 q) (.slice ma acts.length mc)) (.inr (by omega))); (have z60 := z6_.cell 0); (have z61 := z6_.cell 1); (have z62 := z6_.cell 2); (have z63 := z6_.cell 3); clear z6_ s6_ h_ r_ i6_ k6_)
    | (go_at_call_of 67 (Value.int .i64 40); refine (pick_any g _ 40 _ R4.out (by omega)).mono ?_; rintro e5 w5 ⟨q2, rfl, i5_, h_, r_⟩; obtain ⟨q2a, q2b⟩ := i5_.lt (by omega); (have hs5 := h_.size); (have k5_ := Blk.outside K4.out h_ (.inr (by omega))); (have c0 := k5_.cell 0); (have c1 := k5_.cell 1); (have c2 := k5_.cell 2); (have c3 := k5_.cell 3); (have K5 := Lib.hid k5_); (have O5 := Lib.hid (O4.out.trans h_)); (have M5 := Lib.hid (M4.out.trans h_)); (have E5 := Lib.hid (E4.out.outside h_ (.inr (by omega)))); (have R5 := Lib.hid r_); (have s5_ := Blk.outside S4.out h_ (.inr (by omega))); (have x5s0 := s5_.cell 0); (have x5f0 := s5_.free 0); (have x5s1 := s5_.cell 1); (have x5f1 := s5_.free 1); (have x5s2 := s5_.cell 2); (have x5f2 := s5_.free 2); (have x5s3 := s5_.cell 3); (have x5f3 := s5_.free 3); (have S5 := Lib.hid s5_); clear s5_ h_ r_ i5_ k5_)
    | (go_at_call 67; refine (pick_any g _ _ _ R3.out (by omega)).mono ?_; rintro e4 w4 ⟨q1, rfl, i4_, h_, r_⟩; (have hs4 := h_.size); (have k4_ := Blk.outside K3.out h_ (.inr (by omega))); (have b0 := k4_.cell 0); (have b1 := k4_.cell 1); (have b2 := k4_.cell 2); (have b3 := k4_.cell 3); (have K4 := Lib.hid k4_); (have O4 := Lib.hid (O3.out.trans h_)); (have M4 := Lib.hid (M3.out.trans h_)); (have E4 := Lib.hid (OE.out.outside h_ (.inr (by omega)))); (have R4 := Lib.hid r_); (have s4_ := Blk.outside S3.out h_ (.inr (by omega))); (have x4s0 := s4_.cell 0); (have x4f0 := s4_.free 0); (have x4s1 := s4_.cell 1); (have x4f1 := s4_.free 1); (have x4s2 := s4_.cell 2); (have x4f2 := s4_.free 2); (have x4s3 := s4_.cell 3); (have x4f3 := s4_.free 3); (have S4 := Lib.hid s4_); clear s4_ h_ r_ i4_ k4_))
  all_goals (
    obtain ⟨wz, hwz⟩ : ∃ wz, wz = ((((w6.setCell ⟨w.heap.size, 0, none⟩ (.int .i64 n)).setCell ⟨w.heap.size, 1, none⟩ (.int .i64 p)).setCell ⟨w.heap.size, 2, none⟩ (.int .i64 q)).setCell ⟨w.heap.size, 3, none⟩ (.slice ma acts.length mc)) := ⟨_, rfl⟩
    have KZ := S6.out.set4 (.int .i64 n) (.int .i64 p) (.int .i64 q) (.slice ma acts.length mc)
    have OZ := Outside.set4 w.heap.size w6 (.int .i64 n) (.int .i64 p) (.int .i64 q) (.slice ma acts.length mc)
    rw [← hwz] at KZ OZ
    have zz0 := KZ.cell 0
    have zz1 := KZ.cell 1
    have zz2 := KZ.cell 2
    have zz3 := KZ.cell 3
    have HZ := Lib.hid OZ
    have hsz := OZ.size
    clear KZ OZ
    go_wp2_with fail
    simp only [← hwz]
    clear hwz
    refine bodyPost_ret (v := .tuple #[.agg #[.int .i64 n, .int .i64 p, .int .i64 q, .slice ma acts.length mc], .slice ea es.length ec, _]) (by simp [results, Tryz.results47, go_sem, zz0, zz1, zz2, zz3]; rfl) rfl ⟨⟨n, p, q, acts⟩, _, _, es, _, rfl, ?_, ?_, le_, ?_, ?_⟩
    · exact ⟨(((HM.out.1.outside (Outside.undrew M6.out) (.inr (by omega))).outside HZ.out (.inr (by omega))).wide (by omega) (by have := M6.out.size; omega)), HM.out.2⟩
    · exact (E6.out.outside HZ.out (.inr (by omega))).wide (by omega) (by omega)
    · exact O6.out.fresh HZ.out (Nat.le_refl _)
    · exact (R6.out.outside HZ.out hg).mono (by omega))

set_option maxRecDepth 100000 in
set_option maxHeartbeats 3200000 in
theorem DrawRowsOf_any (v : Value) (cs : List Int) (w : World) (h : SlB 0 w.heap.size w v cs) :
    Calls Tryz.prog 15 #[v] w (fun e w' => ∃ (M : Mo) (va ve : Value) (es : List Int), e = .returned (.tuple #[aggMo M va, ve]) ∧ ModelR w w' M va ∧ SlI w.heap.size w'.heap.size w' ve es ∧ es.length ≤ 44 ∧ Below w.heap.size w w') := by
  obtain ⟨w0, hw0⟩ : ∃ w0, w0 = w.alloc (.cells #[.int .i64 0, .int .i64 0, .int .i64 0, .slice none 0 0] 31) := ⟨_, rfl⟩
  obtain ⟨hb0, KS_, hs0⟩ := box_facts2 hw0
  have KS := Lib.hid KS_
  have HX := Lib.hid (SlB.wide (SlB.below h hb0 (Nat.le_refl _)) hb0.size)
  have HW0 := Lib.hid hw0
  have HB0 := Lib.hid hb0
  clear h hb0 KS_ hw0
  go_enter Tryz.func15, Tryz.ntmps15
  go_upto_region 1 with (rw [← HW0.out])
  try rw [← HW0.out]
  clear HW0
  go_wp2_with fail
  refine (l20Open_any _ cs _ HX.out).mono ?_
  rintro e w1 ⟨_, rfl, g, rfl, hg, hb, hr⟩
  have HB := Lib.hid (HB0.out.trans (hb.mono (by omega)))
  replace KS := Lib.hid (KS.out.below hb (by omega))
  clear HX HB0
  have HR := Lib.hid hr
  have hs1 := hb.size
  have hg1 := hr.lt
  clear hr hb
  go_wp2_with fail
  refine (l20Modelled_any g 0 _ HR.out (by omega)).mono ?_
  rintro e w2 ⟨⟨n, p, q, acts⟩, va, ve, es, z, rfl, hM, hE, hl, ho, hr⟩
  have hs2 := ho.size
  obtain ⟨ma, mc, rfl, _, _⟩ := hM.1.shape
  obtain ⟨ea, ec, rfl, _, _⟩ := Sl.shape hE
  have HM := Lib.hid hM
  have HE := Lib.hid hE
  replace HB := Lib.hid (Below.outside HB.out ho (by omega) (by omega))
  replace KS := Lib.hid (KS.out.outside ho (.inl (by omega)))
  clear hM hE ho hr
  obtain ⟨w3, hw3⟩ : ∃ w3, w3 = w2.alloc (.cells #[.int .i64 n, .int .i64 p, .int .i64 q, .slice ma acts.length mc] 31) := ⟨_, rfl⟩
  obtain ⟨hb3, KM_, hs3⟩ := box_facts2 hw3
  have hE3 := HE.out.below hb3 (Nat.le_refl _)
  have hM3 := HM.out.1.below hb3 (Nat.le_refl _)
  have hB3 := HB.out.trans (hb3.mono (by omega))
  have KS3 := KS.out.below hb3 (by omega)
  have k0 := KM_.cell 0
  have k1 := KM_.cell 1
  have k2 := KM_.cell 2
  have k3 := KM_.cell 3
  have f0 := KS3.free 0
  have f1 := KS3.free 1
  have f2 := KS3.free 2
  have f3 := KS3.free 3
  have c0 := KS3.cell 0
  have c1 := KS3.cell 1
  have c2 := KS3.cell 2
  have c3 := KS3.cell 3
  obtain ⟨wz, hwz⟩ : ∃ wz, wz = ((((w3.setCell ⟨w.heap.size, 0, none⟩ (.int .i64 n)).setCell ⟨w.heap.size, 1, none⟩ (.int .i64 p)).setCell ⟨w.heap.size, 2, none⟩ (.int .i64 q)).setCell ⟨w.heap.size, 3, none⟩ (.slice ma acts.length mc)) := ⟨_, rfl⟩
  have KZ := KS3.set4 (.int .i64 n) (.int .i64 p) (.int .i64 q) (.slice ma acts.length mc)
  have OZ := Outside.set4 w.heap.size w3 (.int .i64 n) (.int .i64 p) (.int .i64 q) (.slice ma acts.length mc)
  rw [← hwz] at KZ OZ
  have z0 := KZ.cell 0
  have z1 := KZ.cell 1
  have z2 := KZ.cell 2
  have z3 := KZ.cell 3
  have hsz := OZ.size
  have HZ := Lib.hid OZ
  have H3 := Lib.hid (And.intro hE3 (And.intro hM3 hB3))
  have HW3 := Lib.hid hw3
  clear KZ OZ hE3 hM3 hB3 KS3 KM_ hb3 hw3
  go_wp2_with (rw [← HW3.out])
  try simp only [← HW3.out]
  simp only [← hwz]
  clear hwz
  refine bodyPost_ret (v := .tuple #[.agg #[.int .i64 n, .int .i64 p, .int .i64 q, .slice ma acts.length mc], .slice ea es.length ec]) (by simp [results, Tryz.results15, go_sem, z0, z1, z2, z3]) rfl ⟨⟨n, p, q, acts⟩, _, _, es, rfl, ⟨?_, HM.out.2⟩, ?_, hl, ?_⟩
  · exact ((H3.out.2.1.outside HZ.out (.inr (by omega))).wide (by omega) (by omega))
  · exact (H3.out.1.outside HZ.out (.inr (by omega))).wide (by omega) (by omega)
  · exact Below.outside H3.out.2.2 HZ.out (Nat.le_refl _) (by omega)
end Go.Proofs.YtadihfjmgckdaaaGreatDoor
