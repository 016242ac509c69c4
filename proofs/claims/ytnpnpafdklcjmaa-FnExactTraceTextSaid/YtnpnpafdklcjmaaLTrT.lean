/-
  Texts of walks and plain lemmas for this seat; no condition.
-/
import Derived.Test.YtnpnpafdklcjmaaTText2
namespace Go.Proofs.Ytnpnpafdklcjmaa
open Go.RowKit

theorem eqL_refl (xs : List Int) : eqL xs xs = true := by simp [eqL]

set_option maxHeartbeats 800000 in
theorem law_FnExactTraceText (v : Value) (xs : List Int) (w : World) (hx : SlI 0 w.heap.size w v xs) :
    Calls Try.prog 3 #[v] w fun e w' => e = .returned (.bool true) ∧ Below w.heap.size w w' := by
  have hx0 := hx
  obtain ⟨a, cap, rfl, hcap, hcm, hc⟩ := hx.open
  unfold maxLen at hcm
  clear hx hc
  by_cases hm : xs.length ≤ 1048576
  · have HX := Lib.hid hx0
    clear hx0
    go_enter Try.func3, Try.ntmps3
    go_wp2_with fail
    refine (toIntS_any _ _ _ xs _ HX.out hm).mono ?_
    rintro e w1 ⟨v1, rfl, hb1, ho1⟩
    have hs1 := hb1.size
    have HO1 := Lib.hid ho1
    have HB1 := Lib.hid hb1
    clear ho1 hb1
    go_wp2_with fail
    refine (spec_TraceText _ _ _ xs _ HO1.out.sl hm (Nat.le_refl _)).mono ?_
    rintro e w2 ⟨rfl, hb2⟩
    have hs2 := hb2.size
    have HB2 := Lib.hid (HB1.out.trans (hb2.mono hs1))
    clear hb2
    go_wp2_with fail
    refine (toIntS_any _ _ _ xs _ (HX.out.below HB2.out (Nat.le_refl _)) hm).mono ?_
    rintro e w3 ⟨v3, rfl, hb3, ho3⟩
    have hs3 := hb3.size
    have HO3 := Lib.hid ho3
    have HB3 := Lib.hid (HB2.out.trans (hb3.mono (by omega)))
    clear ho3 hb3
    go_wp2_with fail
    refine (impl_TraceText _ _ _ xs _ HO3.out.sl hm (Nat.le_refl _)).mono ?_
    rintro e w4 ⟨rfl, hb4⟩
    have hs4 := hb4.size
    have HO4 := Lib.hid (HO3.out.below hb4 (Nat.le_refl _))
    have HB4 := Lib.hid (HB3.out.trans (hb4.mono (by omega)))
    clear hb4
    go_wp2_with fail
    refine (toIntS_any _ _ _ xs _ (HX.out.below HB4.out (Nat.le_refl _)) hm).mono ?_
    rintro e w5 ⟨v5, rfl, hb5, ho5⟩
    have HO5 := Lib.hid ho5
    have HO6 := Lib.hid (HO4.out.below hb5 hs4)
    have HB5 := Lib.hid (HB4.out.trans (hb5.mono (by omega)))
    clear ho5 hb5
    have he := eqL_refl xs
    go_wp2_with fail
    refine (eqIntS_any _ _ _ _ _ _ xs xs _ HO6.out.sl HO5.out.sl hm).mono ?_
    rintro e w6 ⟨rfl, m, rfl⟩
    go_wp2
    go_ret
    exact ⟨rfl, below_drewN HB5.out _⟩
  · go_enter Try.func3, Try.ntmps3
    go_wp2
    go_ret
    exact ⟨rfl, Below.refl _ _⟩
end Go.Proofs.Ytnpnpafdklcjmaa
