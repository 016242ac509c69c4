/-
  Texts of walks and plain lemmas for this seat; no condition.
-/
import Derived.Test.YtadihfjmgckdaaaGreatDoorIRows5
import Derived.Deep.DeepCutAuto
namespace Go.Proofs.YtadihfjmgckdaaaGreatDoor
open Go.RowKit

theorem pow_wrap : ∀ {k : Nat}, k < 10 → wrap64 (2 ^ k) = ((2 ^ k : Nat) : Int) := by decide +kernel

set_option maxRecDepth 100000 in
set_option maxHeartbeats 1600000 in
theorem rowsStar_any (la ha : Nat) (n : Int) (va : Value) (xs : List Int) (R : Nat → Nat → Prop) (w : World) (hx : SlI la ha w va xs) (hha : ha ≤ w.heap.size) (h1 : rowsB n xs = true) (hr : xs = rowsR n.toNat R) (hR : Closed n.toNat R) :
    Calls Tryz.prog 100 #[.int .i64 n, va] w (RowsNew w (rowsR n.toNat (Star R))) := by
  have s1 := rowsB_small h1
  have H1 := Lib.hid h1
  have HX := Lib.hid hx
  obtain ⟨l1, l5, S1⟩ := s1
  have HS1 := Lib.hid S1
  have x5 : xs.length ≤ 5 := by omega
  have HL := Lib.hid l1
  have HRr := Lib.hid hr
  have HRc := Lib.hid hR
  obtain ⟨xa, xc, rfl, _, _⟩ := Sl.shape hx
  obtain ⟨zs, hzs⟩ : ∃ zs, zs = rowsR n.toNat (Star R) := ⟨_, rfl⟩
  rw [← hzs]
  have HZL : Hid (zs.length = xs.length) := Lib.hid (by rw [hzs, rowsR_length]; omega)
  have HZ : Hid (∀ k (h : k < xs.length), zs[k]? = some ((bitsN n.toNat (Star R k) : Nat) : Int)) := Lib.hid (by
    intro k h
    have hk : k < zs.length := by rw [hzs, rowsR_length]; omega
    rw [List.getElem?_eq_getElem hk]
    congr 1
    subst hzs
    exact rowsR_get _ _ k hk)
  clear hx h1 S1 l1 l5 hr hR hzs
  go_enter Tryz.func100, Tryz.ntmps100
  go_wp2_with fail
  refine (implRowsValid _ _ n _ xs w HX.out hha (by omega)).mono ?_
  rintro e w2 ⟨rfl, hb1⟩
  rw [H1.out]
  have hs1 := hb1.size
  replace HX := Lib.hid (HX.out.below hb1 hha)
  have HB := Lib.hid hb1
  clear hb1
  go_wp2_with fail
  go_loopw [5, 15] (fun ov iv wr => ∃ (k : Nat) (oa : Option Addr) (oc : Nat) (os : List Int), ov = .slice oa os.length oc ∧ iv = .int .i64 k ∧ k ≤ xs.length ∧ os = zs.take k ∧ os.length ≤ 5 ∧ Hid (Below w2.heap.size w2 wr ∧ OwnI w2.heap.size wr.heap.size 3 wr (.slice oa os.length oc) os)) (fun _ i _ => xs.length - (intOf i).toNat)
  case atStart => exact ⟨0, none, 0, [], rfl, rfl, by omega, by simp, by simp, Lib.hid ⟨Below.refl _ _, Own.nil _ _ _ _ _⟩⟩
  case round =>
    obtain ⟨k, oa, oc, os, rfl, rfl, hk, hos, hol, HQ⟩ := hrel
    by_cases hlt : k < xs.length
    · have HOS := Lib.hid hos
      have hol2 : os.length ≤ 4 := by rw [hos, List.length_take]; omega
      clear hos
      have hk5 : k < 5 := by omega
      have HKn : Hid (k < n.toNat) := Lib.hid (by rw [← HL.out]; exact hlt)
      obtain ⟨w3, hw3⟩ : ∃ w3, w3 = wr := ⟨_, rfl⟩
      rw [← hw3] at HQ
      have HXr := Lib.hid (HX.out.below HQ.out.1 (by omega))
      have hpw := pow_wrap (k := k) (by omega)
      have HOR : Hid (∀ S : Nat, S < 32 → bits .or .i64 (S : Int) ((imgT xs S xs.length : Nat) : Int) = ((S ||| imgT xs S xs.length : Nat) : Int)) := Lib.hid fun S hS => bits64_or _ _ (by omega) (by have := imgT_small HS1.out S xs.length; omega)
      have HW0 : Hid (Way n.toNat R k (2 ^ k)) := Lib.hid (Way.start HKn.out)
      have HLT : Hid (∀ S, Way n.toNat R k S → S < 32) := Lib.hid fun S h => Nat.lt_of_lt_of_le h.lt (by rw [← HL.out]; exact Nat.pow_le_pow_right (n := 2) (by omega) x5)
      have hp5 : 2 ^ k < 32 := HLT.out _ HW0.out
      go_wp2_with fail
      simp only [hpw]
      refine (image_any _ _ _ xs (2 ^ k) wr (by rw [← hw3]; exact HXr.out) (by omega) (by omega) HS1.out).mono ?_
      rintro e _ ⟨rfl, rfl⟩
      clear hpw
      obtain ⟨S0, hS0⟩ : ∃ S0, S0 = 2 ^ k := ⟨_, rfl⟩
      rw [← hS0] at HW0 hp5 ⊢
      clear hS0
      go_wp2_with fail
      go_loop [7, 8] (fun sv nv => ∃ S : Nat, sv = .int .i64 S ∧ nv = .int .i64 ((S ||| imgT xs S xs.length : Nat) : Int) ∧ Hid (Way n.toNat R k S)) (fun sv _ => 32 - (intOf sv).toNat)
      case atStart => exact ⟨S0, rfl, by rw [HOR.out S0 hp5], Lib.hid HW0.out⟩
      case round =>
        obtain ⟨S, rfl, rfl, HWS⟩ := hrel
        have hS := HLT.out S HWS.out
        by_cases he : S ||| imgT xs S xs.length = S
        · have HD := Lib.hid (HWS.out.done HRr.out HRc.out HKn.out (by rw [← HL.out]; exact he))
          have hne : (((S ||| imgT xs S xs.length : Nat) : Int) != (S : Int)) = false := by rw [he]; simp
          clear he
          go_upto_region 13 with (at_builtin; refine wpList_app_lit _ rfl _ _ 23 rfl 3 (.int .i64 0) 1 8 Tryz.underlying23 info_int rfl (by decide) (by decide) rfl (by rw [← hw3]; exact HQ.out.2) 1 (ints [(S : Int)]) rfl rfl (ints_one _) rfl (by omega) (by have := HQ.out.1.size; rw [← hw3]; omega) ?_; intro v5 w5 hown5 hout5 _; obtain ⟨a5, c5, rfl⟩ := Own.shape hown5; (have H5 := Lib.hid (And.intro hown5 hout5)); clear hown5 hout5)
          have HT : Hid (os ++ [(S : Int)] = zs.take (k + 1)) := Lib.hid (by rw [HOS.out, List.take_add_one, HZ.out k hlt, HD.out]; simp)
          subst hw3
          go_wp2
          go_roundw
          case rel => exact ⟨k + 1, _, _, os ++ [(S : Int)], by simp, by go_num, by omega, HT.out, by rw [HT.out, List.length_take]; omega, Lib.hid ⟨Below.outside HQ.out.1 H5.out.2 (Nat.le_refl _) HQ.out.1.size, OwnI.app H5.out.1 rfl⟩⟩
          case measure => simp [intOf]; omega
        · have HN := Lib.hid (HWS.out.next HRr.out)
          have hN5 := HLT.out _ HN.out
          rw [← HL.out] at hN5 HN
          have hgr := or_grows he
          have hne : (((S ||| imgT xs S xs.length : Nat) : Int) != (S : Int)) = true := by simp; omega
          clear he
          obtain ⟨T, hT⟩ : ∃ T, T = S ||| imgT xs S xs.length := ⟨_, rfl⟩
          rw [← hT] at HN hN5 hgr hne ⊢
          clear hT
          go_wp2_with fail
          refine (image_any _ _ _ xs T wr (by rw [← hw3]; exact HXr.out) (by omega) (by omega) HS1.out).mono ?_
          rintro e _ ⟨rfl, rfl⟩
          have HOT := Lib.hid (HOR.out T hN5)
          go_wp2
          go_round
          case rel => exact ⟨T, rfl, by rw [HOT.out], Lib.hid (by rw [HL.out] at HN; exact HN.out)⟩
          case measure => simp [intOf]; omega
    · obtain rfl : k = xs.length := by omega
      have HE : Hid (os = zs) := Lib.hid (by rw [hos, List.take_of_length_le (by have := HZL.out; omega)])
      go_wp2
      go_ret
      exact RetV.mk _ rfl ⟨by have h_ := HQ.out.2; rw [HE.out] at h_ ⊢; exact h_.lower (by omega) (Nat.le_refl _), HB.out.trans (HQ.out.1.mono (by omega))⟩
end Go.Proofs.YtadihfjmgckdaaaGreatDoor
