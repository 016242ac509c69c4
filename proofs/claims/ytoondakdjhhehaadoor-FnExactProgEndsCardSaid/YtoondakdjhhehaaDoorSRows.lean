/-
  Texts of walks and plain lemmas for this seat; no condition.
-/
import Derived.Test.YtoondakdjhhehaaDoorSMod
import Derived.Test.YtoondakdjhhehaaDoorGQ
import Derived.Deep.DeepCutAuto
import Derived.Deep.RegionHeldLaw
namespace Go.Proofs.YtoondakdjhhehaaDoor
open Go.RowKit
set_option linter.unusedVariables false

theorem or_minus (a b : Nat) (ha : a < 1048576) (hb : b < 1048576) : ((a : Int) + b - ((a &&& b : Nat) : Int)) = ((a ||| b : Nat) : Int) := by
  have := or_add_and 20 a b (by omega)
  omega
theorem or_small {a b : Nat} (ha : a < 1048576) (hb : b < 1048576) : a ||| b < 1048576 := Nat.or_lt_two_pow (n := 20) (by omega) (by omega)
set_option maxHeartbeats 800000 in
theorem l1EitherG (a b : Nat) (ha : a < 1048576) (hb : b < 1048576) (w : World) : Calls Tryd.prog 104 #[.int .i64 a, .int .i64 b] w fun e w' => e = .returned (.int .i64 ((a ||| b : Nat) : Int)) ∧ w = w' := by
  have HO := Lib.hid (or_minus a b ha hb)
  have HB := Lib.hid (l1BothG a b ha hb w)
  have hle : a &&& b ≤ a := Nat.and_le_left
  obtain ⟨c, hc⟩ : ∃ c, c = a &&& b := ⟨_, rfl⟩
  rw [← hc] at HB HO hle
  clear hc
  go_enter Tryd.func104, Tryd.ntmps104
  go_wp2_with fail
  refine HB.out.mono ?_
  rintro e _ ⟨rfl, rfl⟩
  go_wp2
  go_ret
  exact ⟨ret_int HO.out, rfl⟩
set_option maxHeartbeats 1600000 in
theorem l7Image_any (lo hi : Nat) (v : Value) (rows : List Int) (set : Nat) (w : World) (hx : SlI lo hi w v rows) (hm : rows.length ≤ 60) (hs : set < 1099511627776) (hr : ∀ s (h : s < rows.length), 0 ≤ rows[s] ∧ rows[s].toNat < 2 ^ 20) :
    Calls Tryd.prog 105 #[v, .int .i64 (set : Nat)] w fun e w' => e = .returned (.int .i64 ((imgT rows set rows.length : Nat) : Int)) ∧ w = w' := by
  have HR := Lib.hid hr
  obtain ⟨a, cap, rfl, hcap, hcm, hc⟩ := hx.open
  clear hx hcm hcap hr
  go_enter Tryd.func105, Tryd.ntmps105
  go_wp2
  go_loop [5, 6] (fun o i => ∃ k : Nat, k ≤ rows.length ∧ i = .int .i64 k ∧ o = .int .i64 ((imgT rows set k : Nat) : Int)) (fun _ i => rows.length - (intOf i).toNat)
  case atStart => exact ⟨0, by omega, rfl, rfl⟩
  case round =>
    obtain ⟨k, hk, rfl, rfl⟩ := hrel
    by_cases hlt : k < rows.length
    · obtain ⟨b, off, rfl, _, _, _, hcell⟩ := hc k hlt
      clear hc
      obtain ⟨x, hx⟩ : ∃ x : Nat, rows[k] = x := ⟨rows[k].toNat, by have := (HR.out k hlt).1; omega⟩
      have hxs := (HR.out k hlt).2
      rw [hx, Int.toNat_natCast] at hxs
      rw [hx] at hcell
      have hg : (rows.getD k 0).toNat = x := by simp [List.getD, List.getElem?_eq_getElem hlt, hx]
      have HBI := Lib.hid (l1BitG set k (by omega) (by omega))
      have HEI := Lib.hid (l1EitherG (imgT rows set k) x (imgT_small HR.out set k) (by omega))
      cases hb : set.testBit k
      · have HN : Hid (imgT rows set (k + 1) = imgT rows set k) := Lib.hid (by rw [imgT, hb]; simp)
        have hbi : bitI set k = 0 := by simp [bitI, hb]
        rw [hbi] at HBI
        clear hb hx hg hbi HEI
        go_wp2_with fail
        refine (HBI.out _).mono ?_
        rintro e _ ⟨rfl, rfl⟩
        go_wp2
        go_round
        case rel => exact ⟨k + 1, by omega, by go_num, by rw [HN.out]⟩
        case measure => simp [intOf]; omega
      · have HN : Hid (imgT rows set (k + 1) = imgT rows set k ||| x) := Lib.hid (by rw [imgT, hb, hg]; simp)
        have hbi : bitI set k = 1 := by simp [bitI, hb]
        rw [hbi] at HBI
        clear hb hx hg hbi
        go_wp2_with fail
        refine (HBI.out _).mono ?_
        rintro e _ ⟨rfl, rfl⟩
        go_wp2_with fail
        refine (HEI.out _).mono ?_
        rintro e _ ⟨rfl, rfl⟩
        go_wp2
        go_round
        case rel => exact ⟨k + 1, by omega, by go_num, by rw [HN.out]⟩
        case measure => simp [intOf]; omega
    · obtain rfl : k = rows.length := by omega
      go_wp2
      go_ret
      exact ⟨rfl, rfl⟩

set_option maxRecDepth 100000 in
set_option maxHeartbeats 1600000 in
theorem specThen (la ha lb hb : Nat) (n : Int) (va vb : Value) (xs ys : List Int) (w : World) (hx : SlI la ha w va xs) (hy : SlI lb hb w vb ys) (hha : ha ≤ w.heap.size) (hhb : hb ≤ w.heap.size) (h1 : rowsB n xs = true) (h2 : rowsB n ys = true) :
    Calls Tryd.prog 85 #[.int .i64 n, va, vb] w (RowsNew w (xs.map fun x => ((imgT ys x.toNat ys.length : Nat) : Int))) := by
  have s1 := rowsB_small h1
  have s2 := rowsB_small h2
  have H1 := Lib.hid h1
  have H2 := Lib.hid h2
  obtain ⟨l1, l5, S1⟩ := s1
  obtain ⟨l2, _, S2⟩ := s2
  have HS1 := Lib.hid S1
  have HS2 := Lib.hid S2
  have x5 : xs.length ≤ 5 := by omega
  have y5 : ys.length ≤ 5 := by omega
  have HLE : Hid (ys.length = xs.length) := Lib.hid (by omega)
  clear l1 l2 l5
  obtain ⟨xa, xc, rfl, _, _⟩ := Sl.shape hx
  obtain ⟨ya, yc, rfl, _, _⟩ := Sl.shape hy
  have HL0 : Hid (Own 1 w.heap.size (w.alloc (.cells #[] 3)).heap.size 3 (w.alloc (.cells #[] 3)) (.slice (some ⟨w.heap.size, 0, none⟩) 0 0) 0 (ints [])) := Lib.hid ((Own.lit 1 3 w (ints []) 0 (by omega) rfl).wide2 (Nat.le_refl _) (by simp))
  have HB0 := Lib.hid (al_below w (.cells #[] 3))
  obtain ⟨w0, hw0⟩ : ∃ w0, w0 = w.alloc (.cells #[] 3) := ⟨_, rfl⟩
  have hs0 : w.heap.size ≤ w0.heap.size := by rw [hw0]; simp
  rw [← hw0] at HL0 HB0
  have HW0 := Lib.hid hw0
  have HX := Lib.hid (hx.below HB0.out hha)
  have HY := Lib.hid (hy.below HB0.out hhb)
  clear hx hy h1 h2 S1 S2 hw0
  obtain ⟨zs, hzs⟩ : ∃ zs, zs = xs.map fun x => ((imgT ys x.toNat ys.length : Nat) : Int) := ⟨_, rfl⟩
  rw [← hzs]
  have HZL : Hid (zs.length = xs.length) := Lib.hid (by rw [hzs]; simp)
  have HZ : Hid (∀ k (h : k < xs.length), zs[k]? = some (((imgT ys xs[k].toNat ys.length : Nat) : Int))) := Lib.hid (by
    intro k h
    rw [hzs]
    simp [h])
  clear hzs
  go_enter Tryd.func85, Tryd.ntmps85
  go_upto_region 2 with (rw [← HW0.out])
  try rw [← HW0.out]
  clear HW0
  go_wp2_with fail
  go_loopw [7, 8] (fun ov iv wr => ∃ (k : Nat) (oa : Option Addr) (oc : Nat) (os : List Int), ov = .slice oa os.length oc ∧ iv = .int .i64 k ∧ k ≤ xs.length ∧ os = zs.take k ∧ os.length ≤ 5 ∧ Hid (Below w.heap.size w wr ∧ Below w.heap.size w0 wr ∧ OwnI w.heap.size wr.heap.size 3 wr (.slice oa os.length oc) os)) (fun _ i _ => xs.length - (intOf i).toNat)
  case atStart => exact ⟨0, _, 0, [], rfl, rfl, by omega, by simp, by simp, Lib.hid ⟨HB0.out, Below.refl _ _, HL0.out⟩⟩
  case round =>
    obtain ⟨k, oa, oc, os, rfl, rfl, hk, hos, hol, HQ⟩ := hrel
    by_cases hlt : k < xs.length
    · have HOS := Lib.hid hos
      have i1d : decide ((k : Int) < (xs.length : Int)) = true := decide_eq_true (by omega)
      have hol2 : os.length ≤ 4 := by rw [HOS.out, List.length_take]; omega
      clear hos
      have hsr := HQ.out.1.size
      have hsr2 := HQ.out.2.1.size
      have hk5 : k < 5 := by omega
      go_wp2_with fail
      refine (spec_RowsValidB _ _ n _ xs wr ((HX.out.below HQ.out.2.1 (by omega))) (by omega)).mono ?_
      rintro e w1 ⟨rfl, hb1⟩
      rw [H1.out]
      have hs1 := hb1.size
      have HQ1 := Lib.hid (show Below w.heap.size w w1 ∧ Below w.heap.size w0 w1 ∧ OwnI w.heap.size w1.heap.size 3 w1 (.slice oa os.length oc) os from ⟨HQ.out.1.trans (hb1.mono hsr), HQ.out.2.1.trans (hb1.mono hsr), (Own.below HQ.out.2.2 hb1 (Nat.le_refl _)).wide2 (Nat.le_refl _) hs1⟩)
      clear hb1 HQ
      go_wp2_with fail
      refine (spec_RowsValidB _ _ n _ ys w1 ((HY.out.below HQ1.out.2.1 (by omega))) (by omega)).mono ?_
      rintro e w2 ⟨rfl, hb2⟩
      rw [H2.out]
      have hs2 := hb2.size
      have HQ := Lib.hid (show Below w.heap.size w w2 ∧ Below w.heap.size w0 w2 ∧ OwnI w.heap.size w2.heap.size 3 w2 (.slice oa os.length oc) os from ⟨HQ1.out.1.trans (hb2.mono (by omega)), HQ1.out.2.1.trans (hb2.mono (by omega)), (Own.below HQ1.out.2.2 hb2 (Nat.le_refl _)).wide2 (Nat.le_refl _) hs2⟩)
      clear hb2 HQ1
      have HXr := Lib.hid (HX.out.below HQ.out.2.1 (by omega))
      have HYr := Lib.hid (HY.out.below HQ.out.2.1 (by omega))
      obtain ⟨x, hxk⟩ : ∃ x : Nat, xs[k] = x := ⟨xs[k].toNat, by have := (HS1.out k hlt).1; omega⟩
      have hxs := (HS1.out k hlt).2
      rw [hxk, Int.toNat_natCast] at hxs
      obtain ⟨b, off, rfl, _, _, _, hcell⟩ := HXr.out.get k hlt
      rw [hxk] at hcell
      have HZk := Lib.hid (HZ.out k hlt)
      rw [hxk] at HZk
      clear hxk
      have hown := HQ.out.2.2
      unfold OwnI at hown
      have hs02 : w.heap.size ≤ w2.heap.size := by omega
      go_wp2_with (first | (go_at_call 105; refine (l7Image_any _ _ _ ys x _ HYr.out (by omega) (by omega) HS2.out).mono ?_; rintro e w4 ⟨rfl, rfl⟩) | (at_builtin; refine wpList_app_lit _ rfl _ _ 43 rfl 3 (.int .i64 0) 1 8 Tryd.underlying43 info_int rfl (by decide) (by decide) rfl hown 1 (ints [((imgT ys x ys.length : Nat) : Int)]) rfl rfl (ints_one _) rfl (by omega) (by omega) ?_))
      intro v5 w5 hown5 hout5 _
      obtain ⟨a5, c5, rfl⟩ := Own.shape hown5
      have H5 := Lib.hid (And.intro hown5 hout5)
      clear hown5 hout5
      have HT : Hid (os ++ [((imgT ys x ys.length : Nat) : Int)] = zs.take (k + 1)) := Lib.hid (by rw [HOS.out, List.take_add_one, HZk.out]; simp)
      clear hown
      go_wp2
      go_roundw
      case rel => exact ⟨k + 1, _, _, os ++ [((imgT ys x ys.length : Nat) : Int)], by simp, by go_num, by omega, HT.out, by rw [HT.out, List.length_take]; omega, Lib.hid ⟨Below.outside HQ.out.1 H5.out.2 (Nat.le_refl _) HQ.out.1.size, Below.outside HQ.out.2.1 H5.out.2 (Nat.le_refl _) hs02, OwnI.app H5.out.1 rfl⟩⟩
      case measure => simp [intOf]; omega
    · obtain rfl : k = xs.length := by omega
      have HE : Hid (os = zs) := Lib.hid (by rw [hos, List.take_of_length_le (by have := HZL.out; omega)])
      have i1d : decide ((xs.length : Int) < (xs.length : Int)) = false := by simp
      go_wp2
      go_ret
      exact RetV.mk _ rfl ⟨by have h_ := HQ.out.2.2; rw [HE.out] at h_ ⊢; exact h_, HQ.out.1⟩

set_option maxRecDepth 100000 in
set_option maxHeartbeats 1600000 in
theorem specPlus (la ha lb hb : Nat) (n : Int) (va vb : Value) (xs ys : List Int) (w : World) (hx : SlI la ha w va xs) (hy : SlI lb hb w vb ys) (hha : ha ≤ w.heap.size) (hhb : hb ≤ w.heap.size) (h1 : rowsB n xs = true) (h2 : rowsB n ys = true) :
    Calls Tryd.prog 84 #[.int .i64 n, va, vb] w (RowsNew w ((List.range xs.length).map fun k => (((xs.getD k 0).toNat ||| (ys.getD k 0).toNat : Nat) : Int))) := by
  have s1 := rowsB_small h1
  have s2 := rowsB_small h2
  have H1 := Lib.hid h1
  have H2 := Lib.hid h2
  obtain ⟨l1, l5, S1⟩ := s1
  obtain ⟨l2, _, S2⟩ := s2
  have HS1 := Lib.hid S1
  have HS2 := Lib.hid S2
  have x5 : xs.length ≤ 5 := by omega
  have y5 : ys.length ≤ 5 := by omega
  have HLE : Hid (ys.length = xs.length) := Lib.hid (by omega)
  clear l1 l2 l5
  obtain ⟨xa, xc, rfl, _, _⟩ := Sl.shape hx
  obtain ⟨ya, yc, rfl, _, _⟩ := Sl.shape hy
  have HL0 : Hid (Own 1 w.heap.size (w.alloc (.cells #[] 3)).heap.size 3 (w.alloc (.cells #[] 3)) (.slice (some ⟨w.heap.size, 0, none⟩) 0 0) 0 (ints [])) := Lib.hid ((Own.lit 1 3 w (ints []) 0 (by omega) rfl).wide2 (Nat.le_refl _) (by simp))
  have HB0 := Lib.hid (al_below w (.cells #[] 3))
  obtain ⟨w0, hw0⟩ : ∃ w0, w0 = w.alloc (.cells #[] 3) := ⟨_, rfl⟩
  have hs0 : w.heap.size ≤ w0.heap.size := by rw [hw0]; simp
  rw [← hw0] at HL0 HB0
  have HW0 := Lib.hid hw0
  have HX := Lib.hid (hx.below HB0.out hha)
  have HY := Lib.hid (hy.below HB0.out hhb)
  clear hx hy h1 h2 S1 S2 hw0
  obtain ⟨zs, hzs⟩ : ∃ zs, zs = (List.range xs.length).map fun k => (((xs.getD k 0).toNat ||| (ys.getD k 0).toNat : Nat) : Int) := ⟨_, rfl⟩
  rw [← hzs]
  have HZL : Hid (zs.length = xs.length) := Lib.hid (by rw [hzs]; simp)
  have HZ : Hid (∀ k (h : k < xs.length), zs[k]? = some (((xs[k].toNat ||| (ys.getD k 0).toNat : Nat) : Int))) := Lib.hid (by
    intro k h
    rw [hzs]
    simp [List.getD, h])
  clear hzs
  go_enter Tryd.func84, Tryd.ntmps84
  go_upto_region 2 with (rw [← HW0.out])
  try rw [← HW0.out]
  clear HW0
  go_wp2_with fail
  go_loopw [7, 8] (fun ov iv wr => ∃ (k : Nat) (oa : Option Addr) (oc : Nat) (os : List Int), ov = .slice oa os.length oc ∧ iv = .int .i64 k ∧ k ≤ xs.length ∧ os = zs.take k ∧ os.length ≤ 5 ∧ Hid (Below w.heap.size w wr ∧ Below w.heap.size w0 wr ∧ OwnI w.heap.size wr.heap.size 3 wr (.slice oa os.length oc) os)) (fun _ i _ => xs.length - (intOf i).toNat)
  case atStart => exact ⟨0, _, 0, [], rfl, rfl, by omega, by simp, by simp, Lib.hid ⟨HB0.out, Below.refl _ _, HL0.out⟩⟩
  case round =>
    obtain ⟨k, oa, oc, os, rfl, rfl, hk, hos, hol, HQ⟩ := hrel
    by_cases hlt : k < xs.length
    · have HOS := Lib.hid hos
      have i1d : decide ((k : Int) < (xs.length : Int)) = true := decide_eq_true (by omega)
      have hol2 : os.length ≤ 4 := by rw [HOS.out, List.length_take]; omega
      clear hos
      have hsr := HQ.out.1.size
      have hsr2 := HQ.out.2.1.size
      have hk5 : k < 5 := by omega
      go_wp2_with fail
      refine (spec_RowsValidB _ _ n _ xs wr ((HX.out.below HQ.out.2.1 (by omega))) (by omega)).mono ?_
      rintro e w1 ⟨rfl, hb1⟩
      rw [H1.out]
      have hs1 := hb1.size
      have HQ1 := Lib.hid (show Below w.heap.size w w1 ∧ Below w.heap.size w0 w1 ∧ OwnI w.heap.size w1.heap.size 3 w1 (.slice oa os.length oc) os from ⟨HQ.out.1.trans (hb1.mono hsr), HQ.out.2.1.trans (hb1.mono hsr), (Own.below HQ.out.2.2 hb1 (Nat.le_refl _)).wide2 (Nat.le_refl _) hs1⟩)
      clear hb1 HQ
      go_wp2_with fail
      refine (spec_RowsValidB _ _ n _ ys w1 ((HY.out.below HQ1.out.2.1 (by omega))) (by omega)).mono ?_
      rintro e w2 ⟨rfl, hb2⟩
      rw [H2.out]
      have hs2 := hb2.size
      have HQ := Lib.hid (show Below w.heap.size w w2 ∧ Below w.heap.size w0 w2 ∧ OwnI w.heap.size w2.heap.size 3 w2 (.slice oa os.length oc) os from ⟨HQ1.out.1.trans (hb2.mono (by omega)), HQ1.out.2.1.trans (hb2.mono (by omega)), (Own.below HQ1.out.2.2 hb2 (Nat.le_refl _)).wide2 (Nat.le_refl _) hs2⟩)
      clear hb2 HQ1
      have HXr := Lib.hid (HX.out.below HQ.out.2.1 (by omega))
      have HYr := Lib.hid (HY.out.below HQ.out.2.1 (by omega))
      obtain ⟨x, hxk⟩ : ∃ x : Nat, xs[k] = x := ⟨xs[k].toNat, by have := (HS1.out k hlt).1; omega⟩
      have hxs := (HS1.out k hlt).2
      rw [hxk, Int.toNat_natCast] at hxs
      obtain ⟨b, off, rfl, _, _, _, hcell⟩ := HXr.out.get k hlt
      rw [hxk] at hcell
      have hky : k < ys.length := by have := HLE.out; omega
      obtain ⟨y, hyk⟩ : ∃ y : Nat, ys[k] = y := ⟨ys[k].toNat, by have := (HS2.out k hky).1; omega⟩
      have hys := (HS2.out k hky).2
      rw [hyk, Int.toNat_natCast] at hys
      obtain ⟨b', off', rfl, _, _, _, hcell'⟩ := HYr.out.get k hky
      rw [hyk] at hcell'
      have hgy : (ys.getD k 0).toNat = y := by simp [List.getD, List.getElem?_eq_getElem hky, hyk]
      have hyl : (k : Int) < (ys.length : Int) := by omega
      clear hyk
      have HZk := Lib.hid (HZ.out k hlt)
      rw [hxk] at HZk
      clear hxk
      have hown := HQ.out.2.2
      unfold OwnI at hown
      have hs02 : w.heap.size ≤ w2.heap.size := by omega
      have HEI := Lib.hid (l1EitherG x y (by omega) (by omega) w2.drew)
      have hcd : w2.drew.cell? ⟨b, off + k, none⟩ = some (.int .i64 (x : Nat)) := hcell
      have hcd' : w2.drew.cell? ⟨b', off' + k, none⟩ = some (.int .i64 (y : Nat)) := hcell'
      have hdz : w2.drew.heap.size = w2.heap.size := rfl
      have HOW := Lib.hid (((show Own 1 w.heap.size w2.heap.size 3 w2.drew (.slice oa os.length oc) os.length (ints os) from hown).alloc (.cells #[.int .i64 ((x ||| y : Nat) : Int)] 3)))
      have HLT : Hid (Sl 1 w2.heap.size (w2.heap.size + 1) (w2.drew.alloc (.cells #[.int .i64 ((x ||| y : Nat) : Int)] 3)) (.slice (some ⟨w2.heap.size, 0, none⟩) 1 1) 1 (ints [((x ||| y : Nat) : Int)])) := Lib.hid (Own.lit 1 3 w2.drew (ints [_]) 1 (by omega) rfl).sl
      have HBZ : Hid (Below w2.heap.size w2 (w2.drew.alloc (.cells #[.int .i64 ((x ||| y : Nat) : Int)] 3))) := Lib.hid ((Below.drew (Below.refl _ _)).alloc (Nat.le_refl _) _)
      have hz9 : w.heap.size ≤ (w2.drew.alloc (.cells #[.int .i64 ((x ||| y : Nat) : Int)] 3)).heap.size := Nat.le_trans hs02 HBZ.out.size
      rw [hgy] at HZk
      clear hgy hown
      go_upto_region 5 with fail
      go_region_law (first
        | (go_simp; go_at_call 104; refine HEI.out.mono ?_; rintro e4 _ ⟨rfl, rfl⟩)
        | (refine step_app_sl (by rfl) _ _ 43 (by rfl) 3 (.int .i64 0) 1 8 Tryd.underlying43 info_int (by rfl) (by decide) (by decide) (by rfl) HOW.out (by rfl) HLT.out (ints_one _) (by omega) hz9 ?_; intro v5 w5 ho5 hout5; obtain ⟨a5, c5, rfl⟩ := Own.shape ho5; (have H5 := Lib.hid (And.intro ho5 ((Outside.of_below HBZ.out (Nat.le_refl _)).trans hout5))); clear ho5 hout5))
      all_goals (
        have HT : Hid (os ++ [((x ||| y : Nat) : Int)] = zs.take (k + 1)) := Lib.hid (by rw [HOS.out, List.take_add_one, HZk.out]; simp)
        go_wp2
        go_roundw
        case rel => exact ⟨k + 1, _, _, os ++ [((x ||| y : Nat) : Int)], by simp, by go_num, by omega, HT.out, by rw [HT.out, List.length_take]; omega, Lib.hid ⟨Below.outside HQ.out.1 H5.out.2 (Nat.le_refl _) HQ.out.1.size, Below.outside HQ.out.2.1 H5.out.2 (Nat.le_refl _) hs02, OwnI.app H5.out.1 rfl⟩⟩
        case measure => simp [intOf]; omega)
    · obtain rfl : k = xs.length := by omega
      have HE : Hid (os = zs) := Lib.hid (by rw [hos, List.take_of_length_le (by have := HZL.out; omega)])
      have i1d : decide ((xs.length : Int) < (xs.length : Int)) = false := by simp
      go_wp2
      go_ret
      exact RetV.mk _ rfl ⟨by have h_ := HQ.out.2.2; rw [HE.out] at h_ ⊢; exact h_, HQ.out.1⟩

set_option maxRecDepth 100000 in
set_option maxHeartbeats 1600000 in
theorem specStar (la ha : Nat) (n : Int) (va : Value) (xs : List Int) (R : Nat → Nat → Prop) (w : World) (hx : SlI la ha w va xs) (hha : ha ≤ w.heap.size) (h1 : rowsB n xs = true) (hr : xs = rowsR n.toNat R) (hR : Closed n.toNat R) :
    Calls Tryd.prog 82 #[.int .i64 n, va] w (RowsNew w (rowsR n.toNat (Star R))) := by
  have s1 := rowsB_small h1
  have H1 := Lib.hid h1
  obtain ⟨l1, l5, S1⟩ := s1
  have HS1 := Lib.hid S1
  have x5 : xs.length ≤ 5 := by omega
  have HL := Lib.hid l1
  have HRr := Lib.hid hr
  have HRc := Lib.hid hR
  obtain ⟨xa, xc, rfl, _, _⟩ := Sl.shape hx
  have HL0 : Hid (Own 1 w.heap.size (w.alloc (.cells #[] 3)).heap.size 3 (w.alloc (.cells #[] 3)) (.slice (some ⟨w.heap.size, 0, none⟩) 0 0) 0 (ints [])) := Lib.hid ((Own.lit 1 3 w (ints []) 0 (by omega) rfl).wide2 (Nat.le_refl _) (by simp))
  have HB0 := Lib.hid (al_below w (.cells #[] 3))
  obtain ⟨w0, hw0⟩ : ∃ w0, w0 = w.alloc (.cells #[] 3) := ⟨_, rfl⟩
  have hs0 : w.heap.size ≤ w0.heap.size := by rw [hw0]; simp
  rw [← hw0] at HL0 HB0
  have HW0 := Lib.hid hw0
  have HX := Lib.hid (hx.below HB0.out hha)
  obtain ⟨zs, hzs⟩ : ∃ zs, zs = rowsR n.toNat (Star R) := ⟨_, rfl⟩
  rw [← hzs]
  have HZL : Hid (zs.length = xs.length) := Lib.hid (by rw [hzs, rowsR_length]; omega)
  have HZ : Hid (∀ k (h : k < xs.length), zs[k]? = some ((bitsN n.toNat (Star R k) : Nat) : Int)) := Lib.hid (by
    intro k h
    have hk : k < zs.length := by rw [hzs, rowsR_length]; omega
    rw [List.getElem?_eq_getElem hk]
    congr 1
    subst hzs
    exact rowsR_get _ _ k hk)
  clear hx h1 S1 l1 l5 hr hR hzs hw0
  go_enter Tryd.func82, Tryd.ntmps82
  go_upto_region 2 with (rw [← HW0.out])
  try rw [← HW0.out]
  clear HW0
  go_wp2_with fail
  go_loopw [5, 6] (fun ov iv wr => ∃ (k : Nat) (oa : Option Addr) (oc : Nat) (os : List Int), ov = .slice oa os.length oc ∧ iv = .int .i64 k ∧ k ≤ xs.length ∧ os = zs.take k ∧ os.length ≤ 5 ∧ Hid (Below w.heap.size w wr ∧ Below w.heap.size w0 wr ∧ OwnI w.heap.size wr.heap.size 3 wr (.slice oa os.length oc) os)) (fun _ i _ => xs.length - (intOf i).toNat)
  case atStart => exact ⟨0, _, 0, [], rfl, rfl, by omega, by simp, by simp, Lib.hid ⟨HB0.out, Below.refl _ _, HL0.out⟩⟩
  case round =>
    obtain ⟨k, oa, oc, os, rfl, rfl, hk, hos, hol, HQ⟩ := hrel
    by_cases hlt : k < xs.length
    · have HOS := Lib.hid hos
      have i1d : decide ((k : Int) < (xs.length : Int)) = true := decide_eq_true (by omega)
      have hol2 : os.length ≤ 4 := by rw [HOS.out, List.length_take]; omega
      clear hos
      have hsr := HQ.out.1.size
      have hsr2 := HQ.out.2.1.size
      have hk5 : k < 5 := by omega
      go_wp2_with fail
      refine (spec_RowsValidB _ _ n _ xs wr ((HX.out.below HQ.out.2.1 (by omega))) (by omega)).mono ?_
      rintro e w3 ⟨rfl, hb1⟩
      rw [H1.out]
      have hs1 := hb1.size
      have HQ1 := Lib.hid (show Below w.heap.size w w3 ∧ Below w.heap.size w0 w3 ∧ OwnI w.heap.size w3.heap.size 3 w3 (.slice oa os.length oc) os from ⟨HQ.out.1.trans (hb1.mono hsr), HQ.out.2.1.trans (hb1.mono hsr), (Own.below HQ.out.2.2 hb1 (Nat.le_refl _)).wide2 (Nat.le_refl _) hs1⟩)
      clear hb1 HQ
      have hs03 : w.heap.size ≤ w3.heap.size := by omega
      have hs033 : w0.heap.size ≤ w3.heap.size := by omega
      have HKn : Hid (k < n.toNat) := Lib.hid (by rw [← HL.out]; exact hlt)
      have HXr := Lib.hid (HX.out.below HQ1.out.2.1 (by omega))
      have hpw := pow_wrap (k := k) (by omega)
      have HW0 : Hid (Way n.toNat R k (2 ^ k)) := Lib.hid (Way.start HKn.out)
      have HLT : Hid (∀ S, Way n.toNat R k S → S < 32) := Lib.hid fun S h => Nat.lt_of_lt_of_le h.lt (by rw [← HL.out]; exact Nat.pow_le_pow_right (n := 2) (by omega) x5)
      have HIM : Hid (∀ S, S < 32 → Calls Tryd.prog 105 #[.slice xa xs.length xc, .int .i64 (S : Nat)] w3 fun e w' => e = .returned (.int .i64 ((imgT xs S xs.length : Nat) : Int)) ∧ w3 = w') := Lib.hid fun S hS => l7Image_any _ _ _ xs S w3 HXr.out (by omega) (by omega) HS1.out
      have HEI : Hid (∀ S, S < 32 → Calls Tryd.prog 104 #[.int .i64 (S : Nat), .int .i64 ((imgT xs S xs.length : Nat) : Int)] w3 fun e w' => e = .returned (.int .i64 ((S ||| imgT xs S xs.length : Nat) : Int)) ∧ w3 = w') := Lib.hid fun S hS => l1EitherG S _ (by omega) (imgT_small HS1.out S xs.length) w3
      have hp5 : 2 ^ k < 32 := HLT.out _ HW0.out
      go_wp2_with fail
      simp only [hpw]
      clear hpw
      obtain ⟨S0, hS0⟩ : ∃ S0, S0 = 2 ^ k := ⟨_, rfl⟩
      rw [← hS0] at HW0 hp5 ⊢
      clear hS0
      go_loop [7] (fun sv => ∃ S : Nat, sv = .int .i64 S ∧ Hid (Way n.toNat R k S)) (fun sv => 32 - (intOf sv).toNat)
      case atStart => exact ⟨S0, rfl, HW0⟩
      case round =>
        obtain ⟨S, rfl, HWS⟩ := hrel
        have hS := HLT.out S HWS.out
        have HI1 := Lib.hid (HIM.out S hS)
        have HE1 := Lib.hid (HEI.out S hS)
        by_cases he : S ||| imgT xs S xs.length = S
        · have HD := Lib.hid (HWS.out.done HRr.out HRc.out HKn.out (by rw [← HL.out]; exact he))
          rw [he] at HE1
          have hne : ((S : Int) != (S : Int)) = false := by simp
          have hown := HQ1.out.2.2
          unfold OwnI at hown
          clear he
          go_wp2_with (first | (go_at_call 105; refine HI1.out.mono ?_; rintro e4 _ ⟨rfl, rfl⟩) | (go_at_call 104; refine HE1.out.mono ?_; rintro e5 _ ⟨rfl, rfl⟩) | (at_builtin; refine wpList_app_lit _ rfl _ _ 43 rfl 3 (.int .i64 0) 1 8 Tryd.underlying43 info_int rfl (by decide) (by decide) rfl hown 1 (ints [(S : Int)]) rfl rfl (ints_one _) rfl (by omega) (by omega) ?_))
          intro v5 w5 hown5 hout5 _
          obtain ⟨a5, c5, rfl⟩ := Own.shape hown5
          have H5 := Lib.hid (And.intro hown5 hout5)
          have HT : Hid (os ++ [(S : Int)] = zs.take (k + 1)) := Lib.hid (by rw [HOS.out, List.take_add_one, HZ.out k hlt, HD.out]; simp)
          clear hown hown5 hout5
          go_wp2
          go_roundw
          case rel => exact ⟨k + 1, _, _, os ++ [(S : Int)], by simp, by go_num, by omega, HT.out, by rw [HT.out, List.length_take]; omega, Lib.hid ⟨Below.outside HQ1.out.1 H5.out.2 (Nat.le_refl _) HQ1.out.1.size, Below.outside HQ1.out.2.1 H5.out.2 (Nat.le_refl _) hs03, OwnI.app H5.out.1 rfl⟩⟩
          case measure => simp [intOf]; omega
        · have HN := Lib.hid (HWS.out.next HRr.out)
          have hN5 := HLT.out _ HN.out
          rw [← HL.out] at hN5 HN
          have hgr := or_grows he
          have hne : (((S ||| imgT xs S xs.length : Nat) : Int) != (S : Int)) = true := by simp; omega
          clear he
          obtain ⟨T, hT⟩ : ∃ T, T = S ||| imgT xs S xs.length := ⟨_, rfl⟩
          rw [← hT] at HN hN5 hgr hne HE1
          clear hT
          go_wp2_with (first | (go_at_call 105; refine HI1.out.mono ?_; rintro e4 _ ⟨rfl, rfl⟩) | (go_at_call 104; refine HE1.out.mono ?_; rintro e5 _ ⟨rfl, rfl⟩))
          go_round
          case rel => exact ⟨T, rfl, Lib.hid (by rw [HL.out] at HN; exact HN.out)⟩
          case measure => simp [intOf]; omega
    · obtain rfl : k = xs.length := by omega
      have HE : Hid (os = zs) := Lib.hid (by rw [hos, List.take_of_length_le (by have := HZL.out; omega)])
      have i1d : decide ((xs.length : Int) < (xs.length : Int)) = false := by simp
      go_wp2
      go_ret
      exact RetV.mk _ rfl ⟨by have h_ := HQ.out.2.2; rw [HE.out] at h_ ⊢; exact h_, HQ.out.1⟩
end Go.Proofs.YtoondakdjhhehaaDoor
