/-
  Texts of walks and plain lemmas for this seat; no condition.
-/
import Derived.Test.YtagjpecibpejmaaGreatDoorDBound
import Derived.Test.YtagjpecibpejmaaGreatDoorHasInt
import Derived.Test.YtagjpecibpejmaaGreatDoorLawP
import Derived.Test.YtagjpecibpejmaaGreatDoorIMoveDo
import Derived.Test.YtagjpecibpejmaaGreatDoorSame
import Derived.Test.YtagjpecibpejmaaGreatDoorAlive
namespace Go.Proofs.YtagjpecibpejmaaGreatDoor
open Go.RowKit

def RetVI (P : Value → Int → World → Prop) (e : Ending) (w' : World) : Prop := ∃ v n, e = .returned (.tuple #[v, .int .i64 n]) ∧ P v n w'
set_option maxHeartbeats 1600000 in
theorem DrawMovesAt_any (v : Value) (cs : List Int) (w : World) (h : SlB 0 w.heap.size w v cs) :
    Calls Tryz.prog 29 #[v] w (RetVI fun v _ w' => ∃ xs : List Int, SlI 0 w'.heap.size w' v xs ∧ xs.length ≤ 44 ∧ Below w.heap.size w w') := by
  go_enter Tryz.func29, Tryz.ntmps29
  go_wp2_with fail
  refine (l20Open_any _ cs _ h).mono ?_
  rintro e w1 ⟨_, rfl, g, rfl, hg, hb, hr⟩
  have HB := Lib.hid hb
  have HR := Lib.hid hr
  have hs1 := hb.size
  have hg1 := hr.lt
  clear hr hb h
  go_wp2_with fail
  refine (l20Bound_any g 0 12 _ HR.out (by omega) (by omega)).mono ?_
  rintro e w2 ⟨v2, rfl, xs, hx, hl, ho, hr⟩
  replace HB := Lib.hid (Below.outside HB.out ho (by omega) (by omega))
  replace HR := Lib.hid hr
  have hs2 := ho.size
  have HX := Lib.hid hx
  obtain ⟨xa, xc, rfl, _, _⟩ := Sl.shape hx
  clear hx ho hr
  go_wp2_with fail
  refine (pick_any g _ _ _ HR.out (by omega)).mono ?_
  rintro e w3 ⟨p, rfl, i_, ho, hr⟩
  obtain ⟨i1, i2⟩ := i_.lt (by omega)
  replace HB := Lib.hid (Below.outside HB.out ho (by omega) (by omega))
  replace HR := Lib.hid hr
  replace HX := Lib.hid (HX.out.outside ho (.inr (by omega)))
  have hs3 := ho.size
  clear ho hr i_
  go_wp2_with fail
  refine (pick_any g _ _ _ HR.out (by omega)).mono ?_
  rintro e w4 ⟨q, rfl, i_, ho, hr⟩
  obtain ⟨j1, j2⟩ := i_.lt (by omega)
  replace HB := Lib.hid (Below.outside HB.out ho (by omega) (by omega))
  replace HX := Lib.hid (HX.out.outside ho (.inr (by omega)))
  have hs4 := ho.size
  clear ho hr i_
  obtain ⟨y, rfl⟩ : ∃ y : Nat, q = y := ⟨q.toNat, by omega⟩
  go_wp2
  go_ret2
  exact ⟨_, _, rfl, xs, HX.out.wide (Nat.zero_le _) (by omega), hl, HB.out⟩
theorem atV_dec (e : List Int) (a : Int) (k : Nat) (hk : k < 21) : decide ((k : Int) ∈ atV e a 21) = (moveV e ⟨(k : Nat), false, a⟩).isSome := by
  rw [Bool.eq_iff_iff, decide_eq_true_iff, atV_mem]
  constructor
  · rintro ⟨j, _, h2, h3⟩
    obtain rfl : k = j := by omega
    exact h3
  · exact fun h => ⟨k, hk, rfl, h⟩

set_option maxRecDepth 100000 in
set_option maxHeartbeats 3200000 in
theorem law_FnMovesAt (v : Value) (cs : List Int) (w : World) (hx : SlB 0 w.heap.size w v cs) (hE : EnvK w) (hXX : EnvX w) :
    Calls Tryz.prog 6 #[v] w fun e w' => e = .returned (.bool true) ∧ Below w.heap.size w w' := by
  have HX := Lib.hid hx
  have HE := Lib.hid hE
  have HXX := Lib.hid hXX
  obtain ⟨⟨a, cap, rfl, hcap, hcm, _⟩, _⟩ := hx
  unfold maxLen at hcm
  clear hE hXX
  by_cases hm : cs.length ≤ 1048576
  · go_enter Tryz.func6, Tryz.ntmps6
    go_wp2_with fail
    refine (DrawMovesAt_any _ cs _ HX.out).mono ?_
    rintro e w1 ⟨v1, n, rfl, xs, h1, hl, hb⟩
    have HB := Lib.hid hb
    have hs1 := hb.size
    replace HX := Lib.hid h1
    obtain ⟨xa, xc, rfl, _, _⟩ := Sl.shape h1
    clear hb h1
    have hout := atV_len xs n 21
    have HP := Lib.hid (atV_ascend xs n 21)
    have HM := Lib.hid (fun k hk => atV_dec xs n k hk)
    have HI := Lib.hid (impl_MovesAt _ xs n w1 (HE.out.below HB.out) (SlI.rd HX.out (Nat.le_refl _)) (by omega))
    have HS : Hid (∀ v wx, RdI wx v xs → Calls Tryz.prog 30 #[v, .int .i64 n] wx (RetV fun v w' => Below wx.heap.size wx w' ∧ OwnI wx.heap.size w'.heap.size 3 w' v (atV xs n 21))) := Lib.hid (fun v wx h => spec_MovesAt v xs n wx h (by omega))
    obtain ⟨out, hd⟩ : ∃ out, atV xs n 21 = out := ⟨_, rfl⟩
    rw [hd] at hout HP HM HI HS
    clear hd
    go_wp2_with fail
    refine (HI.out).mono ?_
    rintro e w2 ⟨v2, rfl, h_, o_⟩
    have hs2 := h_.size
    replace HX := Lib.hid (HX.out.below h_ (Nat.le_refl _))
    replace HB := Lib.hid (HB.out.trans (h_.mono (by omega)))
    have OI := Lib.hid o_.sl
    obtain ⟨ia, ic, rfl, _, _⟩ := Sl.shape o_.sl
    clear h_ o_ HI
    go_wp2_with fail
    refine (HS.out _ _ (SlI.rd HX.out (by omega))).mono ?_
    rintro e w3 ⟨v3, rfl, h_, o_⟩
    have hs3 := h_.size
    replace HX := Lib.hid (HX.out.below h_ (by omega))
    replace OI := Lib.hid (OI.out.below h_ (by omega))
    replace HB := Lib.hid (HB.out.trans (h_.mono (by omega)))
    have OS := Lib.hid o_.sl
    obtain ⟨ja, jc, rfl, _, _⟩ := Sl.shape o_.sl
    clear h_ o_ HS
    go_wp2_with fail
    refine (sameInts_same _ _ _ _ _ _ out _ OI.out OS.out (by omega)).mono ?_
    rintro e w4 ⟨rfl, h_⟩
    have hs4 := h_.size
    replace HX := Lib.hid (HX.out.below h_ (by omega))
    replace OI := Lib.hid (OI.out.below h_ (by omega))
    replace HB := Lib.hid (HB.out.trans (h_.mono (by omega)))
    clear h_ OS
    go_wp2
    go_loopw [6] (fun i wr => ∃ k : Nat, k ≤ 21 ∧ i = .int .i64 k ∧ Hid (Below w4.heap.size w4 wr)) (fun i _ => 21 - (intOf i).toNat)
    case atStart => exact ⟨0, by omega, rfl, Lib.hid (Below.refl _ _)⟩
    case round =>
      obtain ⟨k, hk, rfl, HW⟩ := hrel
      have hsr := HW.out.size
      have HBr := Lib.hid (HB.out.trans (HW.out.mono (by omega)))
      have HXr := Lib.hid (HX.out.below HW.out (by omega))
      have OIr := Lib.hid (OI.out.below HW.out (by omega))
      by_cases hlt : k < 21
      · obtain ⟨t, ht⟩ : ∃ t, t = (moveV xs ⟨(k : Nat), false, n⟩).isSome := ⟨_, rfl⟩
        have hdec := HM.out k hlt
        rw [← ht] at hdec
        have HDC := Lib.hid hdec
        have HT := Lib.hid ht
        have htt : (t != t) = false := by simp
        clear hdec ht
        go_wp2_with fail
        refine (impl_MoveDo _ xs ⟨(k : Nat), false, n⟩ wr (HE.out.below HBr.out) (HXX.out.below HBr.out) (SlI.rd HXr.out (by omega)) (by omega)).mono ?_
        rintro e w6 ⟨v6, ok, rfl, h_, hok, o_⟩
        rw [← HT.out] at hok
        obtain rfl : t = ok := hok.symm
        have hs6 := h_.size
        replace OIr := Lib.hid (OIr.out.below h_ (by omega))
        replace HBr := Lib.hid (HBr.out.trans (h_.mono (by omega)))
        have HW6 := Lib.hid (HW.out.trans (h_.mono (by omega)))
        obtain ⟨a6, c6, rfl, _⟩ := Own.open o_
        clear h_ o_ hok
        go_wp2_with fail
        refine (hasInt_any _ _ _ out k _ OIr.out (by omega)).mono ?_
        rintro e _ ⟨rfl, rfl⟩
        rw [HDC.out]
        go_wp2
        go_roundw
        case rel => exact ⟨k + 1, by omega, by go_num, HW6⟩
        case measure => simp [intOf]; omega
      · obtain rfl : k = 21 := by omega
        go_wp2_with fail
        refine (ascend_true _ _ _ out _ OIr.out (by omega) HP.out).mono ?_
        rintro e w6 ⟨rfl, h_⟩
        replace HBr := Lib.hid (HBr.out.trans (h_.mono (by omega)))
        clear h_
        go_wp2_with fail
        refine (alive_any _).mono ?_
        rintro e _ ⟨rfl, rfl⟩
        go_wp2
        go_ret
        exact ⟨rfl, HBr.out⟩
  · go_enter Tryz.func6, Tryz.ntmps6
    go_wp2
    go_ret
    exact ⟨rfl, Below.refl _ _⟩
end Go.Proofs.YtagjpecibpejmaaGreatDoor
