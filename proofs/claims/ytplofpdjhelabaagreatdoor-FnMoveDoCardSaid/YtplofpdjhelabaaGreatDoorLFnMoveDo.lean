/-
  Texts of walks and plain lemmas for this seat; no condition.
-/
import Derived.Test.YtplofpdjhelabaaGreatDoorGM
import Derived.Test.YtplofpdjhelabaaGreatDoorLawQ
import Derived.Test.YtplofpdjhelabaaGreatDoorLawB
import Derived.Test.YtplofpdjhelabaaGreatDoorGN
import Derived.Test.YtplofpdjhelabaaGreatDoorGQ
import Derived.Test.YtplofpdjhelabaaGreatDoorGR
import Derived.Test.YtplofpdjhelabaaGreatDoorIMoveDo
import Derived.Test.YtplofpdjhelabaaGreatDoorGH
import Derived.Test.YtplofpdjhelabaaGreatDoorIDiffer
import Derived.Test.YtplofpdjhelabaaGreatDoorGS
import Derived.Deep.RegionHeldLaw
import Derived.Deep.RegionHeld3
import Derived.Deep.DeepCutAuto
import Derived.Deep.DrawnRows
namespace Go.Proofs.YtplofpdjhelabaaGreatDoor
open Go.RowKit
set_option linter.unusedVariables false

def RetVM (P : Value → Mv → World → Prop) (e : Ending) (w' : World) : Prop := ∃ v m, e = .returned (.tuple #[v, .agg #[.int .i64 m.which, .bool m.back, .int .i64 m.at_]]) ∧ P v m w'
set_option maxHeartbeats 1600000 in
theorem DrawMoveDo_any (v : Value) (cs : List Int) (w : World) (h : SlB 0 w.heap.size w v cs) :
    Calls Tryz.prog 13 #[v] w (RetVM fun v m w' => ∃ xs : List Int, SlI 0 w'.heap.size w' v xs ∧ xs.length ≤ 44 ∧ Below w.heap.size w w') := by
  obtain ⟨w0, hw0⟩ : ∃ w0, w0 = w.alloc (.cells #[.int .i64 0, .bool false, .int .i64 0] 37) := ⟨_, rfl⟩
  obtain ⟨hb0, KS_, hs0⟩ := box_facts2 hw0
  have KS := Lib.hid KS_
  have HX : Hid (SlB 0 w0.heap.size w0 v cs) := Lib.hid ⟨(h.1.below hb0 (Nat.le_refl _)).wide (Nat.le_refl _) hb0.size, h.2⟩
  have HB := Lib.hid hb0
  have HW0 := Lib.hid hw0
  clear h hb0 KS_ hw0
  go_enter Tryz.func13, Tryz.ntmps13
  go_upto_region 1 with (rw [← HW0.out])
  try rw [← HW0.out]
  clear HW0
  go_wp2_with fail
  refine (l20Open_any _ cs _ HX.out).mono ?_
  rintro e w1 ⟨_, rfl, g, rfl, hg, hb, hr⟩
  have hs1 := hb.size
  replace HB := Lib.hid (HB.out.trans (hb.mono (by omega)))
  replace KS := Lib.hid (KS.out.below hb (by omega))
  have HR := Lib.hid hr
  have hg1 := hr.lt
  clear hr hb HX
  go_wp2_with fail
  refine (l20Bound_any g 0 14 _ HR.out (by omega) (by omega)).mono ?_
  rintro e w2 ⟨v2, rfl, xs, hx, hl, ho, hr⟩
  replace HB := Lib.hid (Below.outside HB.out ho (by omega) (by omega))
  replace KS := Lib.hid (KS.out.outside ho (.inl (by omega)))
  replace HR := Lib.hid hr
  have hs2 := ho.size
  have HX := Lib.hid hx
  obtain ⟨xa, xc, rfl, _, _⟩ := Sl.shape hx
  clear hx ho hr
  go_wp2_with fail
  refine (l20Fit_any g _ _ _ _ xs _ HR.out (by omega) HX.out (by omega) (by omega) (by omega)).mono ?_
  rintro e w3 ⟨m, rfl, ho, _⟩
  replace HB := Lib.hid (Below.outside HB.out ho (by omega) (by omega))
  replace KS := Lib.hid (KS.out.outside ho (.inl (by omega)))
  replace HX := Lib.hid (HX.out.outside ho (.inr (by omega)))
  have hs3 := ho.size
  have c0 := KS.out.cell 0
  have c1 := KS.out.cell 1
  have c2 := KS.out.cell 2
  have f0 := KS.out.free 0
  have f1 := KS.out.free 1
  have f2 := KS.out.free 2
  have HKZ := Lib.hid (show Blk w.heap.size (.cells #[.int .i64 m.which, .bool m.back, .int .i64 m.at_] 37 (0, 0)) (((w3.setCell ⟨w.heap.size, 0, none⟩ (.int .i64 m.which)).setCell ⟨w.heap.size, 1, none⟩ (.bool m.back)).setCell ⟨w.heap.size, 2, none⟩ (.int .i64 m.at_)) ∧ Outside w.heap.size (w.heap.size + 1) w3 (((w3.setCell ⟨w.heap.size, 0, none⟩ (.int .i64 m.which)).setCell ⟨w.heap.size, 1, none⟩ (.bool m.back)).setCell ⟨w.heap.size, 2, none⟩ (.int .i64 m.at_)) from
    ⟨((KS.out.put 0 _).put 1 _).put 2 _, ((Outside.put w.heap.size 0 w3 _).trans (Outside.put w.heap.size 1 _ _)).trans (Outside.put w.heap.size 2 _ _)⟩)
  clear ho
  go_wp2
  generalize (((w3.setCell ⟨w.heap.size, 0, none⟩ (.int .i64 m.which)).setCell ⟨w.heap.size, 1, none⟩ (.bool m.back)).setCell ⟨w.heap.size, 2, none⟩ (.int .i64 m.at_)) = wz at HKZ ⊢
  have q0 := HKZ.out.1.cell 0
  have q1 := HKZ.out.1.cell 1
  have q2 := HKZ.out.1.cell 2
  have ho := HKZ.out.2
  refine bodyPost_ret (v := .tuple #[.slice xa xs.length xc, .agg #[.int .i64 m.which, .bool m.back, .int .i64 m.at_]]) (by simp [results, Tryz.results13, go_sem, q0, q1, q2]) rfl ?_
  exact ⟨_, m, rfl, xs, (HX.out.outside ho (.inr (by omega))).wide (Nat.zero_le _) (by have := ho.size; omega), hl, Below.outside HB.out ho (Nat.le_refl _) (by omega)⟩

set_option maxRecDepth 100000 in
set_option maxHeartbeats 6400000 in
theorem law_FnMoveDo (v : Value) (cs : List Int) (vb : Value) (ds : List Int) (w : World) (hx : SlB 0 w.heap.size w v cs) (hy : SlB 0 w.heap.size w vb ds) (hE : EnvK w) (hXX : EnvX w) :
    Calls Tryz.prog 4 #[v, vb] w fun e w' => e = .returned (.bool true) ∧ Below w.heap.size w w' := by
  have HX := Lib.hid hx
  have HD := Lib.hid hy
  have HE := Lib.hid hE
  have HXX := Lib.hid hXX
  obtain ⟨⟨a, cap, rfl, hcap, hcm, _⟩, _⟩ := hx
  obtain ⟨⟨b, cap2, rfl, hcap2, hcm2, _⟩, _⟩ := hy
  unfold maxLen at hcm hcm2
  clear hE hXX
  by_cases hm : cs.length ≤ 1048576
  · by_cases hm2 : ds.length ≤ 1048576
    · go_enter Tryz.func4, Tryz.ntmps4
      go_wp2_with fail
      refine (DrawMoveDo_any _ cs _ HX.out).mono ?_
      rintro e w1 ⟨v1, m, rfl, xs, h1, hl, hb⟩
      have HB := Lib.hid hb
      have hs1 := hb.size
      replace HX := Lib.hid h1
      replace HD := Lib.hid (SlB.wide (SlB.below HD.out hb (Nat.le_refl _)) hb.size)
      obtain ⟨xa, xc, rfl, _, _⟩ := Sl.shape h1
      clear hb h1
      obtain ⟨w2, hw2⟩ : ∃ w2, w2 = w1.alloc (.cells #[.int .i64 m.which, .bool m.back, .int .i64 m.at_] 37) := ⟨_, rfl⟩
      obtain ⟨h_, KM_, hs2⟩ := box_facts2 hw2
      have KV := Lib.hid KM_
      replace HX := Lib.hid (HX.out.below h_ (Nat.le_refl _))
      replace HD := Lib.hid (SlB.below HD.out h_ (Nat.le_refl _))
      replace HB := Lib.hid (HB.out.trans (h_.mono (by omega)))
      have c0 := KV.out.cell 0
      have c1 := KV.out.cell 1
      have c2 := KV.out.cell 2
      rw [hw2] at c0 c1 c2
      clear h_ KM_
      go_wp2_with fail
      simp only [← hw2]
      clear hw2 c0 c1 c2
      have hyl := moveV_len40 xs m
      obtain ⟨r, hr⟩ : ∃ r, r = moveV xs m := ⟨_, rfl⟩
      rw [← hr] at hyl
      have HR := Lib.hid hr
      clear hr
      refine (impl_MoveDo _ xs m w2 (HE.out.below HB.out) (HXX.out.below HB.out) (SlI.rd HX.out (by omega)) (by omega)).mono ?_
      rintro e w3 ⟨v3, ok, rfl, h_, hok, o_⟩
      rw [← HR.out] at hok o_
      subst hok
      obtain ⟨ys, hys⟩ : ∃ ys, ys = r.getD [] := ⟨_, rfl⟩
      rw [← hys] at o_ hyl
      have HYS := Lib.hid hys
      have hs3 := h_.size
      replace HX := Lib.hid (HX.out.below h_ (by omega))
      replace HD := Lib.hid (SlB.below HD.out h_ (by omega))
      replace HB := Lib.hid (HB.out.trans (h_.mono (by omega)))
      replace KV := Lib.hid (KV.out.below h_ (by omega))
      have OY := Lib.hid o_.sl
      obtain ⟨ya, yc, rfl, _⟩ := Own.open o_
      have c0 := KV.out.cell 0
      have c1 := KV.out.cell 1
      have c2 := KV.out.cell 2
      clear h_ o_ hys
      go_wp2_with fail
      refine (spec_MoveDo _ xs m w3 (SlI.rd HX.out (by omega)) (by omega)).mono ?_
      rintro e w4 ⟨v4, ok, rfl, h_, hok, o_⟩
      rw [← HR.out] at hok o_
      subst hok
      rw [← HYS.out] at o_
      have hs4 := h_.size
      replace HX := Lib.hid (HX.out.below h_ (by omega))
      replace HD := Lib.hid (SlB.below HD.out h_ (by omega))
      replace OY := Lib.hid (OY.out.below h_ (by omega))
      replace HB := Lib.hid (HB.out.trans (h_.mono (by omega)))
      replace KV := Lib.hid (KV.out.below h_ (by omega))
      have OS := Lib.hid o_.sl
      obtain ⟨za, zc, rfl, _⟩ := Own.open o_
      clear h_ o_ c0 c1 c2
      have hbb : (r.isSome != r.isSome) = false := by simp
      go_wp2_with fail
      refine (sameInts_same _ _ _ _ _ _ ys _ OY.out OS.out (by omega)).mono ?_
      rintro e w4' ⟨rfl, h_⟩
      have hs4' := h_.size
      replace HX := Lib.hid (HX.out.below h_ (by omega))
      replace HD := Lib.hid (SlB.below HD.out h_ (by omega))
      replace OY := Lib.hid (OY.out.below h_ (by omega))
      replace HB := Lib.hid (HB.out.trans (h_.mono (by omega)))
      replace KV := Lib.hid (KV.out.below h_ (by omega))
      clear h_ OS
      cases r with
      | none =>
        obtain rfl : ys = [] := by rw [HYS.out]; rfl
        go_wp2_with fail
        refine (alive_any _).mono ?_
        rintro e _ ⟨rfl, rfl⟩
        go_wp2
        go_ret
        exact ⟨rfl, HB.out⟩
      | some x =>
        obtain rfl : ys = x := by rw [HYS.out]; rfl
        have hmv := HR.out.symm
        obtain ⟨hk1, hk2, hk3, _⟩ := moveV_open hmv
        simp only [inB, Bool.and_eq_true, decide_eq_true_eq] at hk3
        have hat1 := hk3.1
        have hat2 : m.at_ ≤ 44 := by omega
        have HKY := Lib.hid (moveV_kat' hmv)
        have HRV := Lib.hid (fun M : Mo => show rowsV M xs = rowsV M ys from rowsV_move hmv)
        have HAP := Lib.hid (apart_move hmv)
        have HMV := Lib.hid hmv
        clear hmv hk1 hk2 hk3
        go_wp2_with fail
        refine (DrawRowsOf_any _ ds _ (SlB.wide HD.out (by omega))).mono ?_
        rintro e w5 ⟨⟨n, p, q, acts⟩, va, ve, es, rfl, hM, hV, hle, h_⟩
        have hs5 := h_.size
        replace HX := Lib.hid (HX.out.below h_ (by omega))
        replace OY := Lib.hid (OY.out.below h_ (by omega))
        replace HB := Lib.hid (HB.out.trans (h_.mono (by omega)))
        replace KV := Lib.hid (KV.out.below h_ (by omega))
        have HM := Lib.hid hM
        obtain ⟨ma, mc, rfl, _, _⟩ := hM.1.shape
        obtain ⟨ea, ec, rfl, _, _⟩ := Sl.shape hV
        clear h_ hM hV
        obtain ⟨w6, hw6⟩ : ∃ x, x = w5.alloc (.cells #[.int .i64 n, .int .i64 p, .int .i64 q, .slice ma acts.length mc] 43) := ⟨_, rfl⟩
        obtain ⟨h_, KM_, hs6⟩ := box_facts2 hw6
        replace HX := Lib.hid (HX.out.below h_ (by omega))
        replace OY := Lib.hid (OY.out.below h_ (by omega))
        replace HM := Lib.hid (HM.out.below h_)
        replace HB := Lib.hid (HB.out.trans (h_.mono (by omega)))
        replace KV := Lib.hid (KV.out.below h_ (by omega))
        have KM := Lib.hid KM_
        have c0 := KV.out.cell 0
        have c1 := KV.out.cell 1
        have c2 := KV.out.cell 2
        rw [hw6] at c0 c1 c2
        clear h_ KM_
        go_wp2_with fail
        simp only [← hw6]
        obtain ⟨gM, hgM⟩ : ∃ x, x = w5.heap.size := ⟨_, rfl⟩
        rw [← hgM] at KM
        simp only [← hgM]
        have hgM6 : gM < w6.heap.size := by omega
        clear hw6 hgM c0 c1 c2
        refine (impl_MoveDo _ ys ⟨m.which, !m.back, m.at_ + (ys.length : Int) - (xs.length : Int)⟩ w6 (HE.out.below HB.out) (HXX.out.below HB.out) (SlI.rd OY.out (by omega)) (by omega)).mono ?_
        rintro e w7 ⟨v7, can, rfl, h_, hcan, o_⟩
        obtain ⟨r2, hr2⟩ : ∃ r2, r2 = moveV ys ⟨m.which, !m.back, m.at_ + (ys.length : Int) - (xs.length : Int)⟩ := ⟨_, rfl⟩
        rw [← hr2] at hcan o_
        subst hcan
        have HBK := Lib.hid (show ∀ y, r2 = some y → y = xs from fun y hy => moveV_back (m' := ⟨m.which, !m.back, m.at_ + (ys.length : Int) - (xs.length : Int)⟩) HMV.out rfl rfl rfl (by rw [← hr2]; exact hy))
        have hs7 := h_.size
        replace HX := Lib.hid (HX.out.below h_ (by omega))
        replace OY := Lib.hid (OY.out.below h_ (by omega))
        replace HM := Lib.hid (HM.out.below (h_.mono (by omega)))
        replace KM := Lib.hid (KM.out.below h_ (by omega))
        replace HB := Lib.hid (HB.out.trans (h_.mono (by omega)))
        have OB := Lib.hid o_.sl
        obtain ⟨ba, bc, rfl, _⟩ := Own.open o_
        clear h_ o_ hr2
        have hrl := rowsV_len ⟨n, p, q, acts⟩ ys
        have hrx : rowsV ⟨n, p, q, acts⟩ xs = rowsV ⟨n, p, q, acts⟩ ys := HRV.out _
        obtain ⟨rs, hrs⟩ : ∃ rs, rowsV ⟨n, p, q, acts⟩ ys = rs := ⟨_, rfl⟩
        rw [hrs] at hrl hrx
        have HRX := Lib.hid hrx
        have HRS := Lib.hid hrs
        clear hrx hrs
        have bd_ : Below w7.heap.size w7 w7.drew := Below.drew (Below.refl _ _)
        have hdz : w7.drew.heap.size = w7.heap.size := rfl
        replace HX := Lib.hid (HX.out.below bd_ (by omega))
        replace OY := Lib.hid (OY.out.below bd_ (by omega))
        replace OB := Lib.hid (OB.out.below bd_ (by omega))
        replace HM := Lib.hid (HM.out.below bd_)
        replace KM := Lib.hid (KM.out.below bd_ (by omega))
        replace HB := Lib.hid (HB.out.trans (bd_.mono (by omega)))
        have k0 := KM.out.cell 0
        have k1 := KM.out.cell 1
        have k2 := KM.out.cell 2
        have k3 := KM.out.cell 3
        cases r2 with
        | none =>
          go_upto_region 12 with fail
          first
          | (go_region_held_law (fun w' => w'.cell? ⟨gM, 0, none⟩ = some (.int .i64 n) ∧ w'.cell? ⟨gM, 1, none⟩ = some (.int .i64 p) ∧ w'.cell? ⟨gM, 2, none⟩ = some (.int .i64 q) ∧ w'.cell? ⟨gM, 3, none⟩ = some (.slice ma acts.length mc)) (first | with_reducible assumption | go_keep) (first
            | ((have g_ := OT); go_at_call 16; refine (sameInts_same _ _ _ _ _ _ rs _ OR.out OT.out (by omega)).mono ?_; rintro e12 w12 ⟨rfl, h_⟩; (have hs12 := h_.size); (have k12_ := K11.out.below h_ (by omega)); (have mm0 := k12_.cell 0); (have mm1 := k12_.cell 1); (have mm2 := k12_.cell 2); (have mm3 := k12_.cell 3); (have K12 := Lib.hid k12_); (have HX12 := Lib.hid (HX11.out.below h_ (by omega))); (have OB12 := Lib.hid (OB11.out.below h_ (by omega))); (have HB12 := Lib.hid (HB11.out.trans (h_.mono (by omega)))); clear h_ k12_ g_)
            | ((have g_ := OR0); go_at_call 19; refine (impl_RowsOf _ _ _ _ ⟨n, p, q, acts⟩ _ _ ys _ HM10.out.1 (by omega) (by have := HM10.out.2.1; simp only at this ⊢; omega) (fun x h => by have := HM10.out.2.2 x h; omega) OY10.out (by omega) (by omega)).mono ?_; rintro e11 w11 ⟨v11, rfl, o_, h_⟩; rw [HRS.out] at o_; (have hs11 := h_.size); obtain ⟨ta, tc, rfl, _⟩ := Own.open o_; (have k11_ := K10.out.below h_ (by omega)); (have l0 := k11_.cell 0); (have l1 := k11_.cell 1); (have l2 := k11_.cell 2); (have l3 := k11_.cell 3); (have K11 := Lib.hid k11_); (have OR := Lib.hid (OR0.out.below h_ (by omega))); (have OT := Lib.hid o_.sl); (have HX11 := Lib.hid (HX10.out.below h_ (by omega))); (have OB11 := Lib.hid (OB10.out.below h_ (by omega))); (have HB11 := Lib.hid (HB10.out.trans (h_.mono (by omega)))); clear h_ k11_ g_ o_)
            | ((have g_ := HB8); go_at_call 19; refine (impl_RowsOf _ _ _ _ ⟨n, p, q, acts⟩ _ _ xs _ HM8.out.1 (by omega) (by have := HM8.out.2.1; simp only at this ⊢; omega) (fun x h => by have := HM8.out.2.2 x h; omega) HX8.out (by omega) (by omega)).mono ?_; rintro e10 w10 ⟨v10, rfl, o_, h_⟩; rw [HRX.out] at o_; (have hs10 := h_.size); obtain ⟨ra, rc, rfl, _⟩ := Own.open o_; (have k10_ := K8.out.below h_ (by omega)); (have j0 := k10_.cell 0); (have j1 := k10_.cell 1); (have j2 := k10_.cell 2); (have j3 := k10_.cell 3); (have K10 := Lib.hid k10_); (have OR0 := Lib.hid o_.sl); (have HM10 := Lib.hid (HM8.out.below (h_.mono (by omega)))); (have OY10 := Lib.hid (OY8.out.below h_ (by omega))); (have HX10 := Lib.hid (HX8.out.below h_ (by omega))); (have OB10 := Lib.hid (OB8.out.below h_ (by omega))); (have HB10 := Lib.hid (HB8.out.trans (h_.mono (by omega)))); clear h_ k10_ g_ o_)
            | (go_at_call 12; refine (equal_any _ _ _ _ _ _ xs ys w7.drew HX.out OY.out (by omega) (by omega) (by omega) (by omega)).mono ?_; rintro e8 w8 ⟨i, rfl, hi_, h_⟩; (have hi0 : (i != 0) = true := bne_iff_ne.2 (fun hz => HAP.out (hi_ hz))); (have hs8 := h_.size); (have k8_ := KM.out.below h_ (by omega)); (have h0 := k8_.cell 0); (have h1 := k8_.cell 1); (have h2 := k8_.cell 2); (have h3 := k8_.cell 3); (have K8 := Lib.hid k8_); (have HX8 := Lib.hid (HX.out.below h_ (by omega))); (have OY8 := Lib.hid (OY.out.below h_ (by omega))); (have OB8 := Lib.hid (OB.out.below h_ (by omega))); (have HM8 := Lib.hid (HM.out.below (h_.mono (by omega)))); (have HB8 := Lib.hid (HB.out.trans (h_.mono (by omega)))); clear h_ k8_ hi_)
            | (go_at_call 18; refine (impl_KatValid _ _ _ ys _ OY.out (by omega)).mono ?_; rintro e7 _ ⟨rfl, rfl⟩; rw [HKY.out])))
          | fail
          all_goals (
            go_wp2
            go_ret
            exact ⟨rfl, HB12.out⟩)
        | some y =>
          obtain rfl := (HBK.out y rfl).symm
          go_upto_region 12 with fail
          go_region_held3 (fun w' => w'.cell? ⟨gM, 0, none⟩ = some (.int .i64 n) ∧ w'.cell? ⟨gM, 1, none⟩ = some (.int .i64 p) ∧ w'.cell? ⟨gM, 2, none⟩ = some (.int .i64 q) ∧ w'.cell? ⟨gM, 3, none⟩ = some (.slice ma acts.length mc)) (first | with_reducible assumption | go_keep) (first
            | ((have g_ := HB12); go_at_call 16; refine (sameInts_same _ _ _ _ _ _ xs _ OB12.out HX12.out (by omega)).mono ?_; rintro e13 w13 ⟨rfl, h_⟩; (have hs13 := h_.size); (have k13_ := K12.out.below h_ (by omega)); (have y0 := k13_.cell 0); (have y1 := k13_.cell 1); (have y2 := k13_.cell 2); (have y3 := k13_.cell 3); (have HB13 := Lib.hid (HB12.out.trans (h_.mono (by omega)))); clear h_ k13_ g_)
            | ((have g_ := OT); go_at_call 16; refine (sameInts_same _ _ _ _ _ _ rs _ OR.out OT.out (by omega)).mono ?_; rintro e12 w12 ⟨rfl, h_⟩; (have hs12 := h_.size); (have k12_ := K11.out.below h_ (by omega)); (have mm0 := k12_.cell 0); (have mm1 := k12_.cell 1); (have mm2 := k12_.cell 2); (have mm3 := k12_.cell 3); (have K12 := Lib.hid k12_); (have HX12 := Lib.hid (HX11.out.below h_ (by omega))); (have OB12 := Lib.hid (OB11.out.below h_ (by omega))); (have HB12 := Lib.hid (HB11.out.trans (h_.mono (by omega)))); clear h_ k12_ g_)
            | ((have g_ := OR0); go_at_call 19; refine (impl_RowsOf _ _ _ _ ⟨n, p, q, acts⟩ _ _ ys _ HM10.out.1 (by omega) (by have := HM10.out.2.1; simp only at this ⊢; omega) (fun x h => by have := HM10.out.2.2 x h; omega) OY10.out (by omega) (by omega)).mono ?_; rintro e11 w11 ⟨v11, rfl, o_, h_⟩; rw [HRS.out] at o_; (have hs11 := h_.size); obtain ⟨ta, tc, rfl, _⟩ := Own.open o_; (have k11_ := K10.out.below h_ (by omega)); (have l0 := k11_.cell 0); (have l1 := k11_.cell 1); (have l2 := k11_.cell 2); (have l3 := k11_.cell 3); (have K11 := Lib.hid k11_); (have OR := Lib.hid (OR0.out.below h_ (by omega))); (have OT := Lib.hid o_.sl); (have HX11 := Lib.hid (HX10.out.below h_ (by omega))); (have OB11 := Lib.hid (OB10.out.below h_ (by omega))); (have HB11 := Lib.hid (HB10.out.trans (h_.mono (by omega)))); clear h_ k11_ g_ o_)
            | ((have g_ := HB8); go_at_call 19; refine (impl_RowsOf _ _ _ _ ⟨n, p, q, acts⟩ _ _ xs _ HM8.out.1 (by omega) (by have := HM8.out.2.1; simp only at this ⊢; omega) (fun x h => by have := HM8.out.2.2 x h; omega) HX8.out (by omega) (by omega)).mono ?_; rintro e10 w10 ⟨v10, rfl, o_, h_⟩; rw [HRX.out] at o_; (have hs10 := h_.size); obtain ⟨ra, rc, rfl, _⟩ := Own.open o_; (have k10_ := K8.out.below h_ (by omega)); (have j0 := k10_.cell 0); (have j1 := k10_.cell 1); (have j2 := k10_.cell 2); (have j3 := k10_.cell 3); (have K10 := Lib.hid k10_); (have OR0 := Lib.hid o_.sl); (have HM10 := Lib.hid (HM8.out.below (h_.mono (by omega)))); (have OY10 := Lib.hid (OY8.out.below h_ (by omega))); (have HX10 := Lib.hid (HX8.out.below h_ (by omega))); (have OB10 := Lib.hid (OB8.out.below h_ (by omega))); (have HB10 := Lib.hid (HB8.out.trans (h_.mono (by omega)))); clear h_ k10_ g_ o_)
            | (go_at_call 12; refine (equal_any _ _ _ _ _ _ xs ys w7.drew HX.out OY.out (by omega) (by omega) (by omega) (by omega)).mono ?_; rintro e8 w8 ⟨i, rfl, hi_, h_⟩; (have hi0 : (i != 0) = true := bne_iff_ne.2 (fun hz => HAP.out (hi_ hz))); (have hs8 := h_.size); (have k8_ := KM.out.below h_ (by omega)); (have h0 := k8_.cell 0); (have h1 := k8_.cell 1); (have h2 := k8_.cell 2); (have h3 := k8_.cell 3); (have K8 := Lib.hid k8_); (have HX8 := Lib.hid (HX.out.below h_ (by omega))); (have OY8 := Lib.hid (OY.out.below h_ (by omega))); (have OB8 := Lib.hid (OB.out.below h_ (by omega))); (have HM8 := Lib.hid (HM.out.below (h_.mono (by omega)))); (have HB8 := Lib.hid (HB.out.trans (h_.mono (by omega)))); clear h_ k8_ hi_)
            | (go_at_call 18; refine (impl_KatValid _ _ _ ys _ OY.out (by omega)).mono ?_; rintro e7 _ ⟨rfl, rfl⟩; rw [HKY.out]))
          go_wp2
          go_ret
          exact ⟨rfl, HB13.out⟩
    · go_enter Tryz.func4, Tryz.ntmps4
      go_wp2
      go_ret
      exact ⟨rfl, Below.refl _ _⟩
  · go_enter Tryz.func4, Tryz.ntmps4
    go_wp2
    go_ret
    exact ⟨rfl, Below.refl _ _⟩
end Go.Proofs.YtplofpdjhelabaaGreatDoor
