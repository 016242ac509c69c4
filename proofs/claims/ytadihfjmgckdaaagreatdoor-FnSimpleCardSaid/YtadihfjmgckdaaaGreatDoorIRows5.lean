/-
  Texts of walks and plain lemmas for this seat; no condition.
-/
import Derived.Test.YtadihfjmgckdaaaGreatDoorIRows4
import Derived.Test.YtadihfjmgckdaaaGreatDoorGA
import Derived.Test.YtadihfjmgckdaaaGreatDoorDKat
import Derived.Deep.DeepCutAuto
namespace Go.Proofs.YtadihfjmgckdaaaGreatDoor
open Go.RowKit

set_option maxRecDepth 100000 in
set_option maxHeartbeats 1600000 in
theorem rowsThen_any (la ha lb hb : Nat) (n : Int) (va vb : Value) (xs ys : List Int) (w : World) (hx : SlI la ha w va xs) (hy : SlI lb hb w vb ys) (hha : ha ≤ w.heap.size) (hhb : hb ≤ w.heap.size) (h1 : rowsB n xs = true) (h2 : rowsB n ys = true) :
    Calls Tryz.prog 98 #[.int .i64 n, va, vb] w (RowsNew w (xs.map fun x => ((imgT ys x.toNat ys.length : Nat) : Int))) := by
  have s1 := rowsB_small h1
  have s2 := rowsB_small h2
  have H1 := Lib.hid h1
  have H2 := Lib.hid h2
  have HX := Lib.hid hx
  have HY := Lib.hid hy
  obtain ⟨l1, l5, S1⟩ := s1
  obtain ⟨l2, _, S2⟩ := s2
  have HS1 := Lib.hid S1
  have HS2 := Lib.hid S2
  have x5 : xs.length ≤ 5 := by omega
  have y5 : ys.length ≤ 5 := by omega
  have HLE : Hid (ys.length = xs.length) := Lib.hid (by omega)
  clear l1 l2 l5
  obtain ⟨xa, xc, rfl, _, _⟩ := Sl.shape hx
  obtain ⟨ya, yc, rfl, _, _⟩ := Sl.shape hy
  clear hx hy h1 h2 S1 S2
  obtain ⟨zs, hzs⟩ : ∃ zs, zs = xs.map fun x => ((imgT ys x.toNat ys.length : Nat) : Int) := ⟨_, rfl⟩
  rw [← hzs]
  have HZL : Hid (zs.length = xs.length) := Lib.hid (by rw [hzs]; simp)
  have HZ : Hid (∀ k (h : k < xs.length), zs[k]? = some (((imgT ys xs[k].toNat ys.length : Nat) : Int))) := Lib.hid (by
    intro k h
    rw [hzs]
    simp [h])
  clear hzs
  go_enter Tryz.func98, Tryz.ntmps98
  go_wp2_with fail
  refine (implRowsValid _ _ n _ xs w HX.out hha (by omega)).mono ?_
  rintro e w1 ⟨rfl, hb1⟩
  rw [H1.out]
  have hs1 := hb1.size
  replace HX := Lib.hid (HX.out.below hb1 hha)
  replace HY := Lib.hid (HY.out.below hb1 hhb)
  have HB := Lib.hid hb1
  clear hb1
  go_wp2_with fail
  refine (implRowsValid _ _ n _ ys w1 HY.out (by omega) (by omega)).mono ?_
  rintro e w2 ⟨rfl, hb2⟩
  rw [H2.out]
  have hs2 := hb2.size
  replace HX := Lib.hid (HX.out.below hb2 (by omega))
  replace HY := Lib.hid (HY.out.below hb2 (by omega))
  replace HB := Lib.hid (HB.out.trans (hb2.mono hs1))
  clear hb2
  go_wp2_with fail
  go_loopw [7, 22] (fun ov iv wr => ∃ (k : Nat) (oa : Option Addr) (oc : Nat) (os : List Int), ov = .slice oa os.length oc ∧ iv = .int .i64 k ∧ k ≤ xs.length ∧ os = zs.take k ∧ os.length ≤ 5 ∧ Hid (Below w2.heap.size w2 wr ∧ OwnI w2.heap.size wr.heap.size 3 wr (.slice oa os.length oc) os)) (fun _ i _ => xs.length - (intOf i).toNat)
  case atStart => exact ⟨0, none, 0, [], rfl, rfl, by omega, by simp, by simp, Lib.hid ⟨Below.refl _ _, Own.nil _ _ _ _ _⟩⟩
  case round =>
    obtain ⟨k, oa, oc, os, rfl, rfl, hk, hos, hol, HQ⟩ := hrel
    by_cases hlt : k < xs.length
    · have HOS := Lib.hid hos
      clear hos
      have hk5 : k < 5 := by omega
      have hol2 : os.length ≤ 4 := by rw [HOS.out, List.length_take]; omega
      have HXr := Lib.hid (HX.out.below HQ.out.1 (by omega))
      have HYr := Lib.hid (HY.out.below HQ.out.1 (by omega))
      obtain ⟨x, hxk⟩ : ∃ x : Nat, xs[k] = x := ⟨xs[k].toNat, by have := (HS1.out k hlt).1; omega⟩
      have hxs := (HS1.out k hlt).2
      rw [hxk, Int.toNat_natCast] at hxs
      obtain ⟨b, off, rfl, _, _, _, hcell⟩ := HXr.out.get k hlt
      rw [hxk] at hcell
      have HZk := Lib.hid (HZ.out k hlt)
      rw [hxk] at HZk
      clear hxk
      go_upto_region 8 with (first | (go_at_call 142; refine (image_any _ _ _ ys x _ HYr.out (by omega) (by omega) HS2.out).mono ?_; rintro e w4 ⟨rfl, rfl⟩) | (at_builtin; refine wpList_app_lit _ rfl _ _ 23 rfl 3 (.int .i64 0) 1 8 Tryz.underlying23 info_int rfl (by decide) (by decide) rfl HQ.out.2 1 (ints [((imgT ys x ys.length : Nat) : Int)]) rfl rfl (ints_one _) rfl (by omega) (by have := HQ.out.1.size; omega) ?_; intro v5 w5 hown5 hout5 _; obtain ⟨a5, c5, rfl⟩ := Own.shape hown5; (have H5 := Lib.hid (And.intro hown5 hout5)); clear hown5 hout5))
      have HT : Hid (os ++ [((imgT ys x ys.length : Nat) : Int)] = zs.take (k + 1)) := Lib.hid (by rw [HOS.out, List.take_add_one, HZk.out]; simp)
      go_wp2
      go_roundw
      case rel => exact ⟨k + 1, _, _, os ++ [((imgT ys x ys.length : Nat) : Int)], by simp, by go_num, by omega, HT.out, by rw [HT.out, List.length_take]; omega, Lib.hid ⟨Below.outside HQ.out.1 H5.out.2 (Nat.le_refl _) HQ.out.1.size, OwnI.app H5.out.1 rfl⟩⟩
      case measure => simp [intOf]; omega
    · obtain rfl : k = xs.length := by omega
      have HE : Hid (os = zs) := Lib.hid (by rw [hos, List.take_of_length_le (by have := HZL.out; omega)])
      go_wp2
      go_ret
      exact RetV.mk _ rfl ⟨by have h_ := HQ.out.2; rw [HE.out] at h_ ⊢; exact h_.lower (by omega) (Nat.le_refl _), HB.out.trans (HQ.out.1.mono (by omega))⟩

set_option maxRecDepth 100000 in
set_option maxHeartbeats 1600000 in
theorem rowsPlus_any (la ha lb hb : Nat) (n : Int) (va vb : Value) (xs ys : List Int) (w : World) (hx : SlI la ha w va xs) (hy : SlI lb hb w vb ys) (hha : ha ≤ w.heap.size) (hhb : hb ≤ w.heap.size) (h1 : rowsB n xs = true) (h2 : rowsB n ys = true) :
    Calls Tryz.prog 99 #[.int .i64 n, va, vb] w (RowsNew w ((List.range xs.length).map fun k => (((xs.getD k 0).toNat ||| (ys.getD k 0).toNat : Nat) : Int))) := by
  have s1 := rowsB_small h1
  have s2 := rowsB_small h2
  have H1 := Lib.hid h1
  have H2 := Lib.hid h2
  have HX := Lib.hid hx
  have HY := Lib.hid hy
  obtain ⟨l1, l5, S1⟩ := s1
  obtain ⟨l2, _, S2⟩ := s2
  have HS1 := Lib.hid S1
  have HS2 := Lib.hid S2
  have x5 : xs.length ≤ 5 := by omega
  have y5 : ys.length ≤ 5 := by omega
  have HLE : Hid (ys.length = xs.length) := Lib.hid (by omega)
  clear l1 l2 l5
  obtain ⟨xa, xc, rfl, _, _⟩ := Sl.shape hx
  obtain ⟨ya, yc, rfl, _, _⟩ := Sl.shape hy
  clear hx hy h1 h2 S1 S2
  obtain ⟨zs, hzs⟩ : ∃ zs, zs = (List.range xs.length).map fun k => (((xs.getD k 0).toNat ||| (ys.getD k 0).toNat : Nat) : Int) := ⟨_, rfl⟩
  rw [← hzs]
  have HZL : Hid (zs.length = xs.length) := Lib.hid (by rw [hzs]; simp)
  have HZ : Hid (∀ k (h : k < xs.length), zs[k]? = some (((xs[k].toNat ||| (ys.getD k 0).toNat : Nat) : Int))) := Lib.hid (by
    intro k h
    rw [hzs]
    simp [List.getD, h])
  clear hzs
  go_enter Tryz.func99, Tryz.ntmps99
  go_wp2_with fail
  refine (implRowsValid _ _ n _ xs w HX.out hha (by omega)).mono ?_
  rintro e w1 ⟨rfl, hb1⟩
  rw [H1.out]
  have hs1 := hb1.size
  replace HX := Lib.hid (HX.out.below hb1 hha)
  replace HY := Lib.hid (HY.out.below hb1 hhb)
  have HB := Lib.hid hb1
  clear hb1
  go_wp2_with fail
  refine (implRowsValid _ _ n _ ys w1 HY.out (by omega) (by omega)).mono ?_
  rintro e w2 ⟨rfl, hb2⟩
  rw [H2.out]
  have hs2 := hb2.size
  replace HX := Lib.hid (HX.out.below hb2 (by omega))
  replace HY := Lib.hid (HY.out.below hb2 (by omega))
  replace HB := Lib.hid (HB.out.trans (hb2.mono hs1))
  clear hb2
  go_wp2_with fail
  go_loopw [7, 22] (fun ov iv wr => ∃ (k : Nat) (oa : Option Addr) (oc : Nat) (os : List Int), ov = .slice oa os.length oc ∧ iv = .int .i64 k ∧ k ≤ xs.length ∧ os = zs.take k ∧ os.length ≤ 5 ∧ Hid (Below w2.heap.size w2 wr ∧ OwnI w2.heap.size wr.heap.size 3 wr (.slice oa os.length oc) os)) (fun _ i _ => xs.length - (intOf i).toNat)
  case atStart => exact ⟨0, none, 0, [], rfl, rfl, by omega, by simp, by simp, Lib.hid ⟨Below.refl _ _, Own.nil _ _ _ _ _⟩⟩
  case round =>
    obtain ⟨k, oa, oc, os, rfl, rfl, hk, hos, hol, HQ⟩ := hrel
    by_cases hlt : k < xs.length
    · have HOS := Lib.hid hos
      clear hos
      have hk5 : k < 5 := by omega
      have hol2 : os.length ≤ 4 := by rw [HOS.out, List.length_take]; omega
      have HXr := Lib.hid (HX.out.below HQ.out.1 (by omega))
      have HYr := Lib.hid (HY.out.below HQ.out.1 (by omega))
      obtain ⟨x, hxk⟩ : ∃ x : Nat, xs[k] = x := ⟨xs[k].toNat, by have := (HS1.out k hlt).1; omega⟩
      have hxs := (HS1.out k hlt).2
      rw [hxk, Int.toNat_natCast] at hxs
      obtain ⟨b, off, rfl, _, _, _, hcell⟩ := HXr.out.get k hlt
      rw [hxk] at hcell
      have hky : k < ys.length := by have := HLE.out; omega
      obtain ⟨y, hyk⟩ : ∃ y : Nat, ys[k] = y := ⟨ys[k].toNat, by have := (HS2.out k hky).1; omega⟩
      have hys := (HS2.out k hky).2
      rw [hyk, Int.toNat_natCast] at hys
      obtain ⟨b', off', rfl, _, _, _, hcell'⟩ := HYr.out.get k hky
      rw [hyk] at hcell'
      have hgy : (ys.getD k 0).toNat = y := by simp [List.getD, List.getElem?_eq_getElem hky, hyk]
      have HO := Lib.hid (bits64_or x y (by omega) (by omega))
      clear hyk
      have HZk := Lib.hid (HZ.out k hlt)
      rw [hxk] at HZk
      clear hxk
      rw [hgy] at HZk
      clear hgy
      go_upto_region 8 with ((at_builtin; refine wpList_app_lit _ rfl _ _ 23 rfl 3 (.int .i64 0) 1 8 Tryz.underlying23 info_int rfl (by decide) (by decide) rfl HQ.out.2 1 (ints [bits .or .i64 (x : Int) (y : Int)]) rfl rfl (ints_one _) rfl (by omega) (by have := HQ.out.1.size; omega) ?_; intro v5 w5 hown5 hout5 _; obtain ⟨a5, c5, rfl⟩ := Own.shape hown5; (have H5 := Lib.hid (And.intro hown5 hout5)); clear hown5 hout5))
      have HT : Hid (os ++ [bits .or .i64 (x : Int) (y : Int)] = zs.take (k + 1)) := Lib.hid (by rw [HOS.out, List.take_add_one, HZk.out, HO.out]; simp)
      go_wp2
      go_roundw
      case rel => exact ⟨k + 1, _, _, os ++ [bits .or .i64 (x : Int) (y : Int)], by simp, by go_num, by omega, HT.out, by rw [HT.out, List.length_take]; omega, Lib.hid ⟨Below.outside HQ.out.1 H5.out.2 (Nat.le_refl _) HQ.out.1.size, OwnI.app H5.out.1 rfl⟩⟩
      case measure => simp [intOf]; omega
    · obtain rfl : k = xs.length := by omega
      have HE : Hid (os = zs) := Lib.hid (by rw [hos, List.take_of_length_le (by have := HZL.out; omega)])
      go_wp2
      go_ret
      exact RetV.mk _ rfl ⟨by have h_ := HQ.out.2; rw [HE.out] at h_ ⊢; exact h_.lower (by omega) (Nat.le_refl _), HB.out.trans (HQ.out.1.mono (by omega))⟩
end Go.Proofs.YtadihfjmgckdaaaGreatDoor
