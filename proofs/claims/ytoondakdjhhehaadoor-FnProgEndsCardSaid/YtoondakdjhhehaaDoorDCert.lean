/-
  Texts of walks and plain lemmas for this seat; no condition.
-/
import Derived.Test.YtoondakdjhhehaaDoorDGrid
import Derived.Test.YtoondakdjhhehaaDoorCertI
import Derived.Deep.RegionLaw
import Derived.Deep.RegionHeld3
import Derived.Deep.DeepCutAuto
import Derived.Deep.DrawnRows
namespace Go.Proofs.YtoondakdjhhehaaDoor
open Go.RowKit
set_option linter.unusedVariables false

/-- A model on its way: its struct, the result's block, its rows, which may be written. -/
def CSt (g c : Nat) (w : World) (lo gM N : Nat) (p q : Int) (va : Value) (ss : List Value) (wr : World) : Prop :=
  Blk gM (.cells #[.int .i64 (N : Int), .int .i64 p, .int .i64 q, va] 25) wr ∧ Blk w.heap.size (.cells #[.int .i64 0, .int .i64 0, .int .i64 0, .slice none 0 0] 25) wr ∧ Grid lo gM wr va N ss ∧ Outside g (g + 1) w wr ∧ Rd g wr c
theorem CSt.mono {g c c' lo gM N : Nat} {w wr : World} {p q : Int} {va : Value} {ss : List Value} (h : CSt g c w lo gM N p q va ss wr) (hc : c ≤ c') : CSt g c' w lo gM N p q va ss wr := ⟨h.1, h.2.1, h.2.2.1, h.2.2.2.1, h.2.2.2.2.mono hc⟩
theorem CSt.out {g c c' lo gM N : Nat} {w wr wy : World} {p q : Int} {va : Value} {ss : List Value} (h : CSt g c w lo gM N p q va ss wr) (ho : Outside g (g + 1) wr wy) (hr : Rd g wy c') (hg : g < w.heap.size) (hl : w.heap.size < lo) (hM : lo ≤ gM) : CSt g c' w lo gM N p q va ss wy :=
  ⟨h.1.outside ho (.inr (by omega)), h.2.1.outside ho (.inr (by omega)), h.2.2.1.outside ho (.inr (by omega)), h.2.2.2.1.trans ho, hr⟩
theorem CSt.drew {g c lo gM N : Nat} {w wr : World} {p q : Int} {va : Value} {ss : List Value} (h : CSt g c w lo gM N p q va ss wr) : CSt g c w lo gM N p q va ss wr.drew := ⟨h.1, h.2.1, h.2.2.1, h.2.2.2.1.drw, h.2.2.2.2⟩
theorem CSt.store {g c lo gM N gi ci : Nat} {w wr : World} {p q : Int} {va : Value} {ss : List Value} (h : CSt g c w lo gM N p q va ss wr) (hs : Value.slice (some ⟨gi, 0, none⟩) N ci ∈ ss) (j : Nat) (x : Int) (hg : g < w.heap.size) (hl : w.heap.size < lo) (hM : lo ≤ gM) :
    CSt g c w lo gM N p q va ss (wr.setCell ⟨gi, j, none⟩ (.int .i64 x)) := by
  obtain ⟨h1, h2⟩ := h.2.2.1.store hs j x
  exact ⟨h.1.outside h2 (.inr (Nat.le_refl _)), h.2.1.outside h2 (.inl (by omega)), h1, h.2.2.2.1.fresh h2 (by omega), h.2.2.2.2.outside h2 (by omega)⟩
/-- A model in new memory. -/
def ModC (w w' : World) (M : Mo) (va : Value) : Prop := SlLL w.heap.size w'.heap.size w' va M.acts ∧ M.acts.length ≤ 3 ∧ (∀ x ∈ M.acts, x.length ≤ 5) ∧ 1 ≤ M.n ∧ M.n ≤ 5
theorem cst_end {g c lo gM N : Nat} {w wr wz : World} {p q : Int} {va : Value} {ss : List Value} (h : CSt g c w lo gM N p q va ss wr) (hg : g < w.heap.size) (hl : w.heap.size < lo) (hM : gM < wr.heap.size) (h3 : ss.length = 3) (h1 : 1 ≤ N) (h5 : N ≤ 5) (OZ : Outside w.heap.size (w.heap.size + 1) wr wz) :
    ∃ xss, ModC w wz ⟨N, p, q, xss⟩ va ∧ Outside g (g + 1) w wz ∧ Rd g wz c := by
  obtain ⟨xss, k1, k2, k3⟩ := h.2.2.1.sl
  refine ⟨xss, ⟨(k1.outside OZ (.inr (by omega))).wide (by omega) (Nat.le_trans (Nat.le_of_lt hM) OZ.size), by simp only; omega, fun x hx => by have := k3 x hx; omega, by simp only; omega, by simp only; omega⟩, h.2.2.2.1.fresh OZ (Nat.le_refl _), h.2.2.2.2.outside OZ hg⟩

set_option maxRecDepth 100000 in
set_option maxHeartbeats 12800000 in
theorem l20Certain_any (g c : Nat) (w : World) (h : Rd g w c) (hc : c ≤ 10000000) :
    Calls Tryd.prog 36 #[.pointer (some ⟨g, 0, none⟩)] w (RetV fun v w' => ∃ (M : Mo) (va : Value), v = aggMo M va ∧ ModC w w' M va ∧ Outside g (g + 1) w w' ∧ Rd g w' (c + 600)) := by
  have hg := h.lt
  obtain ⟨w0, hw0⟩ : ∃ w0, w0 = w.alloc (.cells #[.int .i64 0, .int .i64 0, .int .i64 0, .slice none 0 0] 25) := ⟨_, rfl⟩
  obtain ⟨hb0, K_, hs0⟩ := box_facts2 hw0
  have KR := Lib.hid K_
  have HR := Lib.hid (h.below hb0 hg)
  have HO := Lib.hid ((Outside.refl g (g + 1) w).below hb0 (Nat.le_refl _))
  have HW0 := Lib.hid hw0
  clear h hb0 K_ hw0
  go_enter Tryd.func36, Tryd.ntmps36
  go_wp2_with (rw [← HW0.out])
  try rw [← HW0.out]
  refine (l20Model0_any g c _ HR.out (by omega)).mono ?_
  rintro e w1 ⟨_, rfl, N, x, y, va, ss, rfl, hss, hN1, hN5, hG, h_, r_⟩
  have hs1 := h_.size
  replace KR := Lib.hid (KR.out.outside h_ (.inr (by omega)))
  replace HO := Lib.hid (HO.out.trans h_)
  obtain ⟨aa, ac, hva⟩ := hG.shape
  rw [hss] at hva
  subst hva
  obtain ⟨gM, hgM⟩ : ∃ gM, gM = w1.heap.size := ⟨_, rfl⟩
  obtain ⟨w2, hw2⟩ : ∃ w2, w2 = w1.alloc (.cells #[.int .i64 (N : Int), .int .i64 x, .int .i64 y, .slice aa 3 ac] 25) := ⟨_, rfl⟩
  obtain ⟨hb2, KM_, hs2⟩ := box_facts2 hw2
  rw [← hgM] at KM_ hs2
  have HC : Hid (CSt g (c + 500) w w0.heap.size gM N x y (.slice aa 3 ac) ss w2) := Lib.hid ⟨KM_, KR.out.below hb2 (by omega), (hG.lower (Nat.le_refl _) (by omega)).below hb2 (by omega), HO.out.below hb2 HO.out.size, r_.below hb2 r_.lt⟩
  have HGM := Lib.hid hgM
  have hlo : w0.heap.size ≤ gM := by omega
  have hl0 : w.heap.size < w0.heap.size := by omega
  have HW2 := Lib.hid hw2
  clear hG h_ r_ hb2 KM_ hw2 hgM KR HO HR HW0
  go_wp2_with (rw [← HW2.out])
  try rw [← HW2.out]
  rw [← HGM.out]
  have hgM2 : gM < w2.heap.size := by omega
  go_loopw [4] (fun i wr => ∃ k : Nat, i = .int .i64 k ∧ k ≤ 3 ∧ Hid (CSt g (c + 500 + 20 * k) w w0.heap.size gM N x y (.slice aa 3 ac) ss wr) ∧ gM < wr.heap.size) (fun i _ => 3 - (intOf i).toNat)
  case atStart => exact ⟨0, rfl, by omega, HC, hgM2⟩
  case round =>
    obtain ⟨k, rfl, hk, HQ, hgr⟩ := hrel
    clear HC hgM2 HW2
    obtain ⟨wo, rfl⟩ : ∃ x_, x_ = wr := ⟨_, rfl⟩
    by_cases hlt : k < 3
    · have hlt' : (k : Int) < 3 := by omega
      go_wp2_with fail
      refine (pick_any g _ _ _ HQ.out.2.2.2.2 (by omega)).mono ?_
      rintro e w3 ⟨q, rfl, i_, h_, r_⟩
      clear i_
      have hs3 := h_.size
      replace HQ := Lib.hid (HQ.out.out h_ r_ hg hl0 hlo)
      clear h_ r_
      have hgr3 : gM < w3.heap.size := by omega
      cases hq : decide (0 < q)
      · skip
        obtain ⟨wz, hwz⟩ : ∃ wz, wz = ((((w3.setCell ⟨w.heap.size, 0, none⟩ (.int .i64 (N : Int))).setCell ⟨w.heap.size, 1, none⟩ (.int .i64 x)).setCell ⟨w.heap.size, 2, none⟩ (.int .i64 y)).setCell ⟨w.heap.size, 3, none⟩ (.slice aa 3 ac)) := ⟨_, rfl⟩
        have KX := HQ.out.2.1
        have KZ := KX.set4 (.int .i64 (N : Int)) (.int .i64 x) (.int .i64 y) (.slice aa 3 ac)
        have OZ := Outside.set4 w.heap.size w3 (.int .i64 (N : Int)) (.int .i64 x) (.int .i64 y) (.slice aa 3 ac)
        rw [← hwz] at KZ OZ
        have z0 := KZ.cell 0
        have z1 := KZ.cell 1
        have z2 := KZ.cell 2
        have z3 := KZ.cell 3
        have f0 := KX.free 0
        have f1 := KX.free 1
        have f2 := KX.free 2
        have f3 := KX.free 3
        have c0 := KX.cell 0
        have c1 := KX.cell 1
        have c2 := KX.cell 2
        have c3 := KX.cell 3
        have k0 := HQ.out.1.cell 0
        have k1 := HQ.out.1.cell 1
        have k2 := HQ.out.1.cell 2
        have k3 := HQ.out.1.cell 3
        have OZ' := Lib.hid OZ
        clear KX KZ OZ
        go_wp2_with fail
        simp only [← hwz]
        clear hwz
        obtain ⟨xss, e1, e2, e3⟩ := cst_end (HQ.out.mono (show _ ≤ c + 600 by omega)) hg hl0 (by omega) hss hN1 hN5 OZ'.out
        refine bodyPost_ret (v := .agg #[.int .i64 (N : Int), .int .i64 x, .int .i64 y, (.slice aa 3 ac)]) (by simp [results, Tryd.results36, go_sem, z0, z1, z2, z3]) rfl ⟨_, rfl, ⟨N, x, y, xss⟩, _, rfl, e1, e2, e3⟩
      · go_upto_region 5 with fail
        clear hq
        go_upto_region 6 with fail
        go_loopw [5] (fun i wr => ∃ j : Nat, i = .int .i64 j ∧ j ≤ N ∧ Hid (CSt g (c + 500 + 20 * k + 1 + j) w w0.heap.size gM N x y (.slice aa 3 ac) ss wr) ∧ gM < wr.heap.size) (fun i _ => N - (intOf i).toNat)
        case atStart => exact ⟨0, rfl, by omega, HQ, hgr3⟩
        case round =>
          obtain ⟨j, rfl, hj, HQ, hgr5⟩ := hrel
          have m0 := HQ.out.1.cell 0
          have m3 := HQ.out.1.cell 3
          by_cases hjl : j < N
          · obtain ⟨gO, cap, gi, ci, hva, hc1, hc2, hss2, hi1, hi2, o1, o2, o3, o4, o5, o6, o7⟩ := HQ.out.2.2.1.row (k := k) (by omega) (by omega)
            obtain ⟨o8, z, o9⟩ := o7 j hjl
            clear o7
            unfold maxLen at hc2 hi2
            have hmem : Value.slice (some ⟨gi, 0, none⟩) N ci ∈ ss := by rw [← hss2]; exact List.getElem_mem _
            have HMEM := Lib.hid hmem
            have hgO : gO < gM := by
              obtain ⟨_, _, h2, _⟩ := Own.block (g := gO) (cap := cap) (by rw [← hva]; exact HQ.out.2.2.1.1)
              exact h2
            have hgi : gi < gM := by
              obtain ⟨xs_, hx1, hx2⟩ := HQ.out.2.2.1.2 _ hmem
              have hx3 : Own 1 w0.heap.size gM 3 wr (.slice (some ⟨gi, 0, none⟩) N ci) N (ints xs_) := by
                have h := hx2
                unfold OwnI at h
                rw [hx1] at h
                exact h
              exact (Own.block (g := gi) hx3).2.2.1
            rw [hss2] at o6
            rw [hss] at hva hc1
            have HD : Hid (CSt g (c + 500 + 20 * k + 1 + j) w w0.heap.size gM N x y (.slice aa 3 ac) ss wr.drew) := Lib.hid HQ.out.drew
            have hdz : wr.drew.heap.size = wr.heap.size := rfl
            injection hva with e1 _ e3
            subst e1 e3
            have d0 : wr.drew.cell? ⟨gM, 0, none⟩ = some (.int .i64 (N : Int)) := HQ.out.1.cell 0
            have d1 : wr.drew.cell? ⟨gM, 3, none⟩ = some (.slice (some ⟨gO, 0, none⟩) 3 ac) := HQ.out.1.cell 3
            have d2 : wr.drew.cell? ⟨gO, k, none⟩ = some (.slice (some ⟨gi, 0, none⟩) N ci) := o6
            have d3 : wr.drew.cell? ⟨gi, j, none⟩ = some (.int .i64 z) := o9
            have d4 : wr.drew.frozen? ⟨gi, j, none⟩ = false := o8
            clear hmem hss2 o6 o8 o9
            go_wp2_with fail
            have HP : Hid (Calls Tryd.prog 38 #[.pointer (some ⟨g, 0, none⟩), .int .i64 (N : Int)] wr.drew fun e3 w5 => ∃ yy : Nat, e3 = .returned (.int .i64 (yy : Int)) ∧ yy < N ∧ wr.heap.size ≤ w5.heap.size ∧ w5.cell? ⟨gM, 0, none⟩ = some (.int .i64 (N : Int)) ∧ w5.cell? ⟨gM, 3, none⟩ = some (.slice (some ⟨gO, 0, none⟩) 3 ac) ∧ w5.cell? ⟨gO, k, none⟩ = some (.slice (some ⟨gi, 0, none⟩) N ci) ∧ w5.cell? ⟨gi, j, none⟩ = some (.int .i64 z) ∧ w5.frozen? ⟨gi, j, none⟩ = false ∧ Hid (CSt g (c + 500 + 20 * k + 1 + j + 1) w w0.heap.size gM N x y (.slice (some ⟨gO, 0, none⟩) 3 ac) ss w5)) := by
              refine Lib.hid ((pick_any g _ _ _ HD.out.2.2.2.2 (by omega)).mono ?_)
              rintro e3 w5 ⟨qq, rfl, i_, h_, r_⟩
              obtain ⟨ii1, ii2⟩ := i_.lt (by omega)
              obtain ⟨yy, rfl⟩ : ∃ yy : Nat, qq = yy := ⟨qq.toNat, by omega⟩
              have hz5 := h_.size
              have H5 := HD.out.out h_ r_ hg hl0 hlo
              refine ⟨yy, rfl, by omega, by omega, H5.1.cell 0, H5.1.cell 3, ?_, ?_, ?_, Lib.hid H5⟩
              · rw [World.cell?_of_block (w := wr.drew) (a := ⟨gO, k, none⟩) (h_.block gO (by omega) (.inr (by omega)))]; exact d2
              · rw [World.cell?_of_block (w := wr.drew) (a := ⟨gi, j, none⟩) (h_.block gi (by omega) (.inr (by omega)))]; exact d3
              · rw [World.frozen?_of_block (w := wr.drew) (a := ⟨gi, j, none⟩) (h_.block gi (by omega) (.inr (by omega)))]; exact d4
            go_region_law (first
              | (go_simp; go_at_call 38; refine HP.out.mono ?_; rintro e3 w5 ⟨yy, rfl, hyy, hz5, m0_, m1, m2, m3_, m4, H5⟩))
            all_goals (
              go_wp2
              go_roundw
              case rel => exact ⟨j + 1, by go_num, by omega, Lib.hid (H5.out.store HMEM.out j _ hg hl0 hlo), by simp only [World.setCell]; simp; omega⟩
              case measure => simp [intOf]; omega)
          · obtain rfl : j = N := by omega
            go_wp2
            go_roundw
            case rel => exact ⟨k + 1, by go_num, by omega, Lib.hid (HQ.out.mono (by omega)), hgr5⟩
            case measure => simp [intOf]; omega
    · obtain rfl : k = 3 := by omega
      obtain ⟨wz, hwz⟩ : ∃ wz, wz = ((((wo.setCell ⟨w.heap.size, 0, none⟩ (.int .i64 (N : Int))).setCell ⟨w.heap.size, 1, none⟩ (.int .i64 x)).setCell ⟨w.heap.size, 2, none⟩ (.int .i64 y)).setCell ⟨w.heap.size, 3, none⟩ (.slice aa 3 ac)) := ⟨_, rfl⟩
      have KX := HQ.out.2.1
      have KZ := KX.set4 (.int .i64 (N : Int)) (.int .i64 x) (.int .i64 y) (.slice aa 3 ac)
      have OZ := Outside.set4 w.heap.size wo (.int .i64 (N : Int)) (.int .i64 x) (.int .i64 y) (.slice aa 3 ac)
      rw [← hwz] at KZ OZ
      have z0 := KZ.cell 0
      have z1 := KZ.cell 1
      have z2 := KZ.cell 2
      have z3 := KZ.cell 3
      have f0 := KX.free 0
      have f1 := KX.free 1
      have f2 := KX.free 2
      have f3 := KX.free 3
      have c0 := KX.cell 0
      have c1 := KX.cell 1
      have c2 := KX.cell 2
      have c3 := KX.cell 3
      have k0 := HQ.out.1.cell 0
      have k1 := HQ.out.1.cell 1
      have k2 := HQ.out.1.cell 2
      have k3 := HQ.out.1.cell 3
      have OZ' := Lib.hid OZ
      clear KX KZ OZ
      go_wp2_with fail
      simp only [← hwz]
      clear hwz
      obtain ⟨xss, e1, e2, e3⟩ := cst_end (HQ.out.mono (show _ ≤ c + 600 by omega)) hg hl0 (by omega) hss hN1 hN5 OZ'.out
      refine bodyPost_ret (v := .agg #[.int .i64 (N : Int), .int .i64 x, .int .i64 y, (.slice aa 3 ac)]) (by simp [results, Tryd.results36, go_sem, z0, z1, z2, z3]) rfl ⟨_, rfl, ⟨N, x, y, xss⟩, _, rfl, e1, e2, e3⟩
end Go.Proofs.YtoondakdjhhehaaDoor
