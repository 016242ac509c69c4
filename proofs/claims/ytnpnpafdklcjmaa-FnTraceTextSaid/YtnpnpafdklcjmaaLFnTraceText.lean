/-
  Texts of walks and plain lemmas for this seat; no condition.
-/
import Derived.Test.YtnpnpafdklcjmaaTrLaw
namespace Go.Proofs.Ytnpnpafdklcjmaa
open Go.RowKit

theorem eqL_refl' (xs ys : List Int) (h : xs = ys) : eqL xs ys = true := by simp [eqL, h]

set_option maxHeartbeats 1600000 in
theorem law_FnTraceText (v : Value) (cs : List Int) (v' : Value) (cs' : List Int) (w : World) (hx : SlB 0 w.heap.size w v cs) (hy : SlB 0 w.heap.size w v' cs') :
    Calls Try.prog 4 #[v, v'] w fun e w' => e = .returned (.bool true) ∧ Below w.heap.size w w' := by
  have HX := Lib.hid hx
  have HY := Lib.hid hy
  obtain ⟨⟨a, cap, rfl, hcap, hcm, _⟩, _⟩ := hx
  obtain ⟨⟨a', cap', rfl, hcap', hcm', _⟩, _⟩ := hy
  unfold maxLen at hcm hcm'
  by_cases hm : cs.length ≤ 1048576
  · by_cases hm' : cs'.length ≤ 1048576
    · go_enter Try.func4, Try.ntmps4
      go_wp2_with fail
      refine (DrawTraceText_any _ cs _ HX.out).mono ?_
      rintro e w1 ⟨v1, rfl, ys, ho1, hl1', hb1⟩
      have hs1 := hb1.size
      obtain ⟨a1, cap1, rfl, hcap1, hcm1, _⟩ := Own.open ho1
      unfold maxLen at hcm1
      have HO1 := Lib.hid ho1.sl
      have HB1 := Lib.hid hb1
      clear ho1 hb1
      go_wp2_with fail
      refine (impl_TraceText _ _ _ ys _ HO1.out (by omega) (Nat.le_refl _)).mono ?_
      rintro e w2 ⟨rfl, hb2⟩
      have hs2 := hb2.size
      have HO2 := Lib.hid (HO1.out.below hb2 (Nat.le_refl _))
      have HB2 := Lib.hid (HB1.out.trans (hb2.mono hs1))
      clear hb2
      go_wp2_with fail
      refine (spec_TraceText _ _ _ ys _ HO2.out (by omega) hs2).mono ?_
      rintro e w3 ⟨rfl, hb3⟩
      have hs3 := hb3.size
      have HO3 := Lib.hid (HO2.out.below hb3 hs2)
      have HB3 := Lib.hid (HB2.out.trans (hb3.mono (by omega)))
      clear hb3
      cases hv : traceV ys
      · have ht : trText ys = [] := (trText_nil_iff ys).2 hv
        go_wp2_with fail
        refine (impl_TraceValid _ _ _ ys _ HO3.out (by omega)).mono ?_
        rintro e w4 ⟨rfl, rfl⟩
        go_wp2_with fail
        refine (alive_any _).mono ?_
        rintro e w4 ⟨rfl, rfl⟩
        go_wp2
        go_ret
        exact ⟨rfl, HB3.out⟩
      · have ht : trText ys ≠ [] := fun h => by rw [trText_nil_iff, hv] at h; cases h
        have ht1 : ((trText ys).isEmpty) = false := by simpa using ht
        have HL := Lib.hid (trText_length ys hv)
        have hl1 : (((trText ys).length : Int) == (ys.length : Int)) = true := by rw [HL.out]; simp
        have hl3 : (trText ys).length ≤ 100 := by rw [HL.out]; exact hl1'
        clear ht
        go_wp2_with fail
        refine (DrawTraceText_any _ cs' _ ⟨Sl.wide (HY.out.1.below HB3.out (Nat.le_refl _)) (Nat.le_refl _) HB3.out.size, HY.out.2⟩).mono ?_
        rintro e w4 ⟨v4, rfl, zs, ho4, hl4, hb4⟩
        have hs4 := hb4.size
        have HO4 := Lib.hid ho4.sl
        have HO5 := Lib.hid (HO3.out.below hb4 (by omega))
        have HB4 := Lib.hid (HB3.out.trans (hb4.mono (by omega)))
        clear ho4 hb4
        go_wp2_with fail
        refine (impl_TraceText _ _ _ zs _ HO4.out (by omega) (Nat.le_refl _)).mono ?_
        rintro e w5 ⟨rfl, hb5⟩
        have hs5 := hb5.size
        have HO6 := Lib.hid (HO4.out.below hb5 (Nat.le_refl _))
        have HO7 := Lib.hid (HO5.out.below hb5 (by omega))
        have HB5 := Lib.hid (HB4.out.trans (hb5.mono (by omega)))
        clear hb5
        by_cases he : trText zs = trText ys
        · have HE := Lib.hid (trText_inj ys zs hv he)
          have he1 : (trText zs == trText ys) = true := by simp [he]
          clear he
          have he2 := eqL_refl' ys zs HE.out
          go_wp2_with fail
          refine (sameInts_any _ _ _ _ _ _ ys zs _ HO7.out HO6.out (by omega)).mono ?_
          rintro e w6 ⟨rfl, m, rfl⟩
          go_wp2
          go_ret
          exact ⟨rfl, below_drewN HB5.out _⟩
        · have he1 : (trText zs == trText ys) = false := by simpa using he
          clear he
          go_wp2
          go_ret
          exact ⟨rfl, HB5.out⟩
    · go_enter Try.func4, Try.ntmps4
      go_wp2
      go_ret
      exact ⟨rfl, Below.refl _ _⟩
  · go_enter Try.func4, Try.ntmps4
    go_wp2
    go_ret
    exact ⟨rfl, Below.refl _ _⟩
end Go.Proofs.Ytnpnpafdklcjmaa
