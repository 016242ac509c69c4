/-
  Texts of walks and plain lemmas for this seat; no condition.
-/
import Derived.Test.YtoondakdjhhehaaDoorMoM
import Derived.Test.YtoondakdjhhehaaDoorGZE
import Derived.Test.YtoondakdjhhehaaDoorSPgE
import Derived.Test.YtoondakdjhhehaaDoorFrameT
import Derived.Deep.RegionHeld3
import Derived.Deep.DeepCutAuto
import Derived.Deep.DrawnRows
namespace Go.Proofs.YtoondakdjhhehaaDoor
open Go.RowKit
set_option linter.unusedVariables false

set_option maxRecDepth 100000 in
set_option maxHeartbeats 6400000 in
theorem law_FnExactProgEnds (M : Mo) (va : Value) (v : Value) (ps : List Int) (st : Int) (w : World) (hA : SlLL 0 w.heap.size w va M.acts) (hP : SlI 0 w.heap.size w v ps) (hE : TabT w) :
    Calls Tryd.prog 5 #[aggMo M va, v, .int .i64 st] w fun e w' => e = .returned (.bool true) ∧ Below w.heap.size w w' := by
  obtain ⟨sa, sc, rfl, _, _⟩ := hA.shape
  obtain ⟨pa, pc, rfl, _, hpm⟩ := hP.shape
  unfold maxLen at hpm
  obtain ⟨n, P, Q, acts⟩ := M
  simp only at hA ⊢
  obtain ⟨gA, hgA⟩ : ∃ gA, gA = w.heap.size := ⟨_, rfl⟩
  obtain ⟨w0, hw0⟩ : ∃ w0, w0 = w.alloc (.cells #[.int .i64 n, .int .i64 P, .int .i64 Q, .slice sa acts.length sc] 42) := ⟨_, rfl⟩
  obtain ⟨hb0, K_, hs0⟩ := box_facts3 hw0
  rw [← hgA] at K_
  have K0 := Lib.hid K_
  have HX := Lib.hid (hA.below hb0 (Nat.le_refl _))
  have HP := Lib.hid (hP.below hb0 (Nat.le_refl _))
  have HB := Lib.hid hb0
  have HE := Lib.hid (hE.below hb0)
  have HW0 := Lib.hid hw0
  have HGA := Lib.hid hgA
  have hga1 : gA ≤ w.heap.size := by omega
  have hga2 : w.heap.size ≤ gA := by omega
  clear hA hP hE hb0 hw0 K_ hgA
  by_cases hl : ps.length ≤ 1048576
  · have hld : decide (1048576 < (ps.length : Int)) = false := decide_eq_false (by omega)
    by_cases hm : acts.length + sumL acts ≤ 1048576
    · obtain ⟨t, ht⟩ : ∃ t, endV ⟨n, P, Q, acts⟩ ps st = t := ⟨_, rfl⟩
      have HT := Lib.hid ht
      have htt : (t != t) = false := by simp
      obtain ⟨z, hz⟩ : ∃ z : Nat, (z : Int) = 1048576 - ((acts.length + sumL acts : Nat) : Int) := ⟨1048576 - (acts.length + sumL acts), by omega⟩
      have hz0 : ¬ (z : Int) < 0 := by omega
      have hal : acts.length ≤ 1048576 := by omega
      have HM2 : Hid (∀ x ∈ acts, x.length ≤ 1048576) := Lib.hid fun x hx => by have := sumL_row acts x hx; omega
      have HSZ := Lib.hid (szModel_any 0 w.heap.size ⟨n, P, Q, acts⟩ _ (z : Int) w0 HX.out (by omega) (by simp only; omega) (fun _ => hz))
      clear ht hz
      have k0 := K0.out.cell 0
      have k1 := K0.out.cell 1
      have k2 := K0.out.cell 2
      have k3 := K0.out.cell 3
      have hgl0 := K0.out.lt
      go_enter Tryd.func5, Tryd.ntmps5
      go_upto_region 1 with (rw [← HW0.out])
      try rw [← HW0.out]
      rw [← HGA.out]
      go_wp2_with fail
      refine HSZ.out.mono ?_
      rintro e w1 ⟨rfl, h_⟩
      have hs1 := h_.size
      clear k0 k1 k2 k3 HSZ
      replace K0 := Lib.hid (K0.out.below h_ hgl0)
      replace HX := Lib.hid (HX.out.below h_ (by omega))
      replace HP := Lib.hid (HP.out.below h_ (by omega))
      replace HE := Lib.hid (HE.out.below h_)
      replace HB := Lib.hid (HB.out.trans (h_.mono (by omega)))
      have hgl1 := K0.out.lt
      clear h_
      have k0 := K0.out.cell 0
      have k1 := K0.out.cell 1
      have k2 := K0.out.cell 2
      have k3 := K0.out.cell 3
      go_wp2_with fail
      refine (toModel_any 0 w.heap.size ⟨n, P, Q, acts⟩ _ w1 HX.out (by omega) hal HM2.out).mono ?_
      rintro e w2 ⟨vb, rfl, h_, o_⟩
      have hs2 := h_.size
      clear k0 k1 k2 k3
      replace K0 := Lib.hid (K0.out.below h_ hgl1)
      replace HX := Lib.hid (HX.out.below h_ (by omega))
      replace HP := Lib.hid (HP.out.below h_ (by omega))
      replace HE := Lib.hid (HE.out.below h_)
      replace HB := Lib.hid (HB.out.trans (h_.mono (by omega)))
      have hgl2 := K0.out.lt
      have O1 := Lib.hid o_
      clear h_ o_
      go_wp2_with fail
      refine (toIntS_any 0 w.heap.size _ ps w2 HP.out hl).mono ?_
      rintro e w3 ⟨vq, rfl, h_, o_⟩
      have hs3 := h_.size
      replace K0 := Lib.hid (K0.out.below h_ hgl2)
      replace HX := Lib.hid (HX.out.below h_ (by omega))
      replace HP := Lib.hid (HP.out.below h_ (by omega))
      replace HE := Lib.hid (HE.out.below h_)
      replace HB := Lib.hid (HB.out.trans (h_.mono (by omega)))
      replace O1 := Lib.hid (O1.out.below h_ (Nat.le_refl _))
      have hgl3 := K0.out.lt
      have HSP := Lib.hid (spec_ProgEnds _ _ _ _ ⟨n, P, Q, acts⟩ vb vq ps st w3 O1.out (by omega) hal HM2.out o_.sl (Nat.le_refl _) hl)
      rw [HT.out] at HSP
      clear h_ o_ O1
      go_wp2_with fail
      refine HSP.out.mono ?_
      rintro e w4 ⟨rfl, h_⟩
      have hs4 := h_.size
      replace K0 := Lib.hid (K0.out.below h_ hgl3)
      replace HX := Lib.hid (HX.out.below h_ (by omega))
      replace HP := Lib.hid (HP.out.below h_ (by omega))
      replace HE := Lib.hid (HE.out.below h_)
      replace HB := Lib.hid (HB.out.trans (h_.mono (by omega)))
      have hgl4 := K0.out.lt
      clear h_ HSP
      have k0 := K0.out.cell 0
      have k1 := K0.out.cell 1
      have k2 := K0.out.cell 2
      have k3 := K0.out.cell 3
      go_wp2_with fail
      refine (toModel_any 0 w.heap.size ⟨n, P, Q, acts⟩ _ w4 HX.out (by omega) hal HM2.out).mono ?_
      rintro e w5 ⟨vx, rfl, h_, o_⟩
      have hs5 := h_.size
      clear k0 k1 k2 k3
      replace K0 := Lib.hid (K0.out.below h_ hgl4)
      replace HX := Lib.hid (HX.out.below h_ (by omega))
      replace HP := Lib.hid (HP.out.below h_ (by omega))
      replace HE := Lib.hid (HE.out.below h_)
      replace HB := Lib.hid (HB.out.trans (h_.mono (by omega)))
      have hgl5 := K0.out.lt
      obtain ⟨xa, xc, rfl, _, _⟩ := o_.shape
      obtain ⟨w6, hw6⟩ : ∃ w6, w6 = w5.alloc (.cells #[.int .i64 n, .int .i64 P, .int .i64 Q, .slice xa acts.length xc] 25) := ⟨_, rfl⟩
      obtain ⟨hb6, K_, hs6⟩ := box_facts3 hw6
      obtain ⟨gx, hgx⟩ : ∃ gx, gx = w5.heap.size := ⟨_, rfl⟩
      rw [← hgx] at K_
      have KX := Lib.hid K_
      have O2 := Lib.hid (o_.below hb6 (Nat.le_refl _))
      replace K0 := Lib.hid (K0.out.below hb6 hgl5)
      replace HX := Lib.hid (HX.out.below hb6 (by omega))
      replace HP := Lib.hid (HP.out.below hb6 (by omega))
      replace HE := Lib.hid (HE.out.below hb6)
      replace HB := Lib.hid (HB.out.trans (hb6.mono (by omega)))
      have hgl6 := K0.out.lt
      have hgx6 := KX.out.lt
      have hgx5 : w5.heap.size ≤ gx := by omega
      have HW6 := Lib.hid hw6
      have HGX := Lib.hid hgx
      clear h_ o_ hb6 K_ hw6 hgx
      go_upto_region 9 with (rw [← HW6.out])
      try rw [← HW6.out]
      rw [← HGX.out]
      clear HW6 HGX
      go_wp2_with fail
      refine (toIntS_any 0 w.heap.size _ ps w6 HP.out hl).mono ?_
      rintro e w7 ⟨vy, rfl, h_, o_⟩
      have hs7 := h_.size
      replace K0 := Lib.hid (K0.out.below h_ hgl6)
      replace KX := Lib.hid (KX.out.below h_ hgx6)
      replace HX := Lib.hid (HX.out.below h_ (by omega))
      replace HP := Lib.hid (HP.out.below h_ (by omega))
      replace HE := Lib.hid (HE.out.below h_)
      replace HB := Lib.hid (HB.out.trans (h_.mono (by omega)))
      replace O2 := Lib.hid (O2.out.below h_ (by omega))
      have hgl7 := K0.out.lt
      have hgx7 := KX.out.lt
      obtain ⟨ya, yc, rfl, _, _⟩ := o_.sl.shape
      have O3 := Lib.hid o_.sl
      have HIM := Lib.hid (impl_ProgEnds _ _ _ _ ⟨n, P, Q, acts⟩ (.slice xa acts.length xc) _ ps st w7 HE.out O2.out (by omega) hal HM2.out o_.sl (Nat.le_refl _) hl)
      rw [HT.out] at HIM
      clear h_ o_
      have k0 := KX.out.cell 0
      have k1 := KX.out.cell 1
      have k2 := KX.out.cell 2
      have k3 := KX.out.cell 3
      go_wp2_with fail
      refine HIM.out.mono ?_
      rintro e w8 ⟨rfl, h_⟩
      have hs8 := h_.size
      clear k0 k1 k2 k3 HIM
      replace K0 := Lib.hid (K0.out.below h_ hgl7)
      replace KX := Lib.hid (KX.out.below h_ hgx7)
      replace HX := Lib.hid (HX.out.below h_ (by omega))
      replace HP := Lib.hid (HP.out.below h_ (by omega))
      replace HB := Lib.hid (HB.out.trans (h_.mono (by omega)))
      replace O2 := Lib.hid (O2.out.below h_ (by omega))
      replace O3 := Lib.hid (O3.out.below h_ (by omega))
      have hgl8 := K0.out.lt
      have hgx8 := KX.out.lt
      clear h_ HE
      have k0 := K0.out.drew.cell 0
      have k1 := K0.out.drew.cell 1
      have k2 := K0.out.drew.cell 2
      have k3 := K0.out.drew.cell 3
      have m0 := KX.out.drew.cell 0
      have m1 := KX.out.drew.cell 1
      have m2 := KX.out.drew.cell 2
      have m3 := KX.out.drew.cell 3
      have hdz : w8.drew.heap.size = w8.heap.size := rfl
      have HBD : Hid (Below w8.heap.size w8 w8.drew) := Lib.hid (Below.drew (Below.refl _ _))
      have HXD := Lib.hid (HX.out.below HBD.out (by omega))
      go_upto_region 13 with fail
      go_region_held3 (fun w' => w'.cell? ⟨gA, 0, none⟩ = some (.int .i64 n) ∧ w'.cell? ⟨gA, 1, none⟩ = some (.int .i64 P) ∧ w'.cell? ⟨gA, 2, none⟩ = some (.int .i64 Q) ∧ w'.cell? ⟨gA, 3, none⟩ = some (.slice sa acts.length sc) ∧ w'.cell? ⟨gx, 0, none⟩ = some (.int .i64 n) ∧ w'.cell? ⟨gx, 1, none⟩ = some (.int .i64 P) ∧ w'.cell? ⟨gx, 2, none⟩ = some (.int .i64 Q) ∧ w'.cell? ⟨gx, 3, none⟩ = some (.slice xa acts.length xc)) (first | with_reducible assumption | go_keep) (first
        | (go_at_call 21; refine (toModel_any 0 w.heap.size ⟨n, P, Q, acts⟩ _ w8.drew HXD.out (by omega) hal HM2.out).mono ?_; rintro e9 w9 ⟨vr, rfl, hb_, o_⟩; obtain ⟨ra, rc, rfl, _, _⟩ := o_.shape; (have hs9 := hb_.size); (have hb9 : Below w8.heap.size w8 w9 := HBD.out.trans (hb_.mono (Nat.le_refl _))); (have K9 := K0.out.below hb9 hgl8); (have a0 := K9.cell 0); (have a1 := K9.cell 1); (have a2 := K9.cell 2); (have a3 := K9.cell 3); (have X9 := KX.out.below hb9 hgx8); (have b0 := X9.cell 0); (have b1 := X9.cell 1); (have b2 := X9.cell 2); (have b3 := X9.cell 3); (have HK9 := Lib.hid K9); (have HX9 := Lib.hid X9); (have HB9 := Lib.hid hb9); (have HEQ := Lib.hid (eqModel_same _ _ _ _ ⟨n, P, Q, acts⟩ (.slice xa acts.length xc) _ w9 (O2.out.below hb9 (by omega)) o_ (by omega) (Nat.le_refl _) HM2.out hal)); clear hb_ o_ hb9 K9 X9)
        | (go_at_call 24; refine HEQ.out.mono ?_; rintro e10 w10 ⟨rfl, hb10_⟩; (have hs10 := hb10_.size); (have K10 := HK9.out.below hb10_ HK9.out.lt); (have c0 := K10.cell 0); (have c1 := K10.cell 1); (have c2 := K10.cell 2); (have c3 := K10.cell 3); (have X10 := HX9.out.below hb10_ HX9.out.lt); (have d0 := X10.cell 0); (have d1 := X10.cell 1); (have d2 := X10.cell 2); (have d3 := X10.cell 3); (have HB10 := Lib.hid (HB9.out.trans (hb10_.mono hs9))); clear hb10_ K10 X10))
      have HP10 := Lib.hid (HP.out.below HB10.out (by omega))
      have O310 := Lib.hid (O3.out.below HB10.out (by omega))
      have HBF := Lib.hid (HB.out.trans (HB10.out.mono (by omega)))
      go_wp2_with fail
      refine (toIntS_any 0 w.heap.size _ ps w10 HP10.out hl).mono ?_
      rintro e11 w11 ⟨vs, rfl, h_, o_⟩
      have hs11 := h_.size
      obtain ⟨za, zc, rfl, _, _⟩ := o_.sl.shape
      have HEI := Lib.hid (eqIntS_any _ _ _ _ _ _ ps ps w11 (O310.out.below h_ (by omega)) o_.sl hl)
      have HBG := Lib.hid (HBF.out.trans (h_.mono (by omega)))
      rw [show eqL ps ps = true by simp [eqL]] at HEI
      clear h_ o_
      go_wp2_with fail
      refine HEI.out.mono ?_
      rintro e12 _ ⟨rfl, q, rfl⟩
      go_wp2
      go_ret
      exact ⟨rfl, below_drewN HBG.out _⟩
    · have HSZ := Lib.hid (szModel_any 0 w.heap.size ⟨n, P, Q, acts⟩ _ (-1) w0 HX.out (by omega) (fun _ => rfl) (fun h => by simp only at h; omega))
      have k0 := K0.out.cell 0
      have k1 := K0.out.cell 1
      have k2 := K0.out.cell 2
      have k3 := K0.out.cell 3
      go_enter Tryd.func5, Tryd.ntmps5
      go_upto_region 1 with (rw [← HW0.out])
      try rw [← HW0.out]
      rw [← HGA.out]
      go_wp2_with fail
      refine HSZ.out.mono ?_
      rintro e w1 ⟨rfl, h_⟩
      have HBF := Lib.hid (HB.out.trans (h_.mono (by omega)))
      clear h_
      go_wp2
      go_ret
      exact ⟨rfl, HBF.out⟩
  · have hld : decide (1048576 < (ps.length : Int)) = true := decide_eq_true (by omega)
    go_enter Tryd.func5, Tryd.ntmps5
    go_upto_region 1 with (rw [← HW0.out])
    try rw [← HW0.out]
    go_wp2
    go_ret
    exact ⟨rfl, HB.out⟩
end Go.Proofs.YtoondakdjhhehaaDoor
