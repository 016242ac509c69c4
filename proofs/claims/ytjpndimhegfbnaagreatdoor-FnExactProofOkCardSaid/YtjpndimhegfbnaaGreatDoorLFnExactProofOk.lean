/-
  Texts of walks and plain lemmas for this seat; no condition.
-/
import Derived.Test.YtjpndimhegfbnaaGreatDoorGI
import Derived.Test.YtjpndimhegfbnaaGreatDoorGG
import Derived.Test.YtjpndimhegfbnaaGreatDoorGA
namespace Go.Proofs.YtjpndimhegfbnaaGreatDoor
open Go.RowKit

set_option maxRecDepth 100000 in
set_option maxHeartbeats 6400000 in
theorem law_FnExactProofOk (v : Value) (xs : List Int) (v' : Value) (ys : List Int) (vz : Value) (ms : List Mv) (w : World) (hx : SlI 0 w.heap.size w v xs) (hy : SlI 0 w.heap.size w v' ys) (hz : SlM 0 w.heap.size w vz ms) (hE : EnvK w) :
    Calls Tryz.prog 6 #[v, v', vz] w fun e w' => e = .returned (.bool true) ∧ Below w.heap.size w w' := by
  have HX := Lib.hid hx
  have HY := Lib.hid hy
  have HZ := Lib.hid hz
  have HE := Lib.hid hE
  obtain ⟨a, cap, rfl, hcap, hcm⟩ := Sl.shape hx
  obtain ⟨a', cap', rfl, hcap', hcm'⟩ := Sl.shape hy
  obtain ⟨az, capz, rfl, hcapz, hcmz⟩ := hz.shape
  unfold maxLen at hcm hcm' hcmz
  have hcz : ms.length ≤ 9223372036854775807 := by omega
  clear hx hy hz hE
  by_cases hm : xs.length ≤ 1048576
  · by_cases hm' : ys.length ≤ 1048576
    · by_cases hl : ms.length ≤ 1048576
      · obtain ⟨t, ht⟩ : ∃ t, okV xs ys ms = t := ⟨_, rfl⟩
        have HT := Lib.hid ht
        have htt : (t != t) = false := by simp
        have hlz : ¬ (1048576 : Int) - ms.length < 0 := by omega
        clear ht
        go_enter Tryz.func6, Tryz.ntmps6
        go_wp2_with fail
        refine (szMoveS_any ms.length _ _ 1048576 (1048576 - ms.length) hcz (by omega) (by omega) (by omega) (fun _ => rfl) _).mono ?_
        rintro e_ w_ ⟨rfl, rfl⟩
        go_wp2_with fail
        refine (toIntS_any _ _ _ xs _ HX.out hm).mono ?_
        rintro e w1 ⟨v_O1, rfl, h_, o_⟩
        have hs1 := h_.size
        replace HX := Lib.hid (HX.out.below h_ (by omega)); replace HY := Lib.hid (HY.out.below h_ (by omega)); replace HZ := Lib.hid (HZ.out.below h_ (by omega))
        have HB := Lib.hid (h_)
        have O1 := Lib.hid (o_)
        clear o_
        clear h_
        go_wp2_with fail
        refine (toIntS_any _ _ _ ys _ HY.out hm').mono ?_
        rintro e w2 ⟨v_O2, rfl, h_, o_⟩
        have hs2 := h_.size
        replace HX := Lib.hid (HX.out.below h_ (by omega)); replace HY := Lib.hid (HY.out.below h_ (by omega)); replace HZ := Lib.hid (HZ.out.below h_ (by omega)); replace O1 := Lib.hid (O1.out.below h_ (by omega))
        replace HB := Lib.hid (HB.out.trans (h_.mono (by omega)))
        have O2 := Lib.hid (o_)
        clear o_
        clear h_
        go_wp2_with fail
        refine (toMoveS_any _ _ _ ms _ HZ.out (by omega) hl).mono ?_
        rintro e w3 ⟨v_O3, rfl, h_, o_⟩
        have hs3 := h_.size
        replace HX := Lib.hid (HX.out.below h_ (by omega)); replace HY := Lib.hid (HY.out.below h_ (by omega)); replace HZ := Lib.hid (HZ.out.below h_ (by omega)); replace O1 := Lib.hid (O1.out.below h_ (by omega)); replace O2 := Lib.hid (O2.out.below h_ (by omega))
        replace HB := Lib.hid (HB.out.trans (h_.mono (by omega)))
        have O3 := Lib.hid (o_)
        clear o_
        clear h_
        go_wp2_with fail
        refine (spec_ProofOk _ _ _ _ _ _ _ _ _ xs ys ms _ O1.out.sl hm O2.out.sl (by omega) hm' O3.out.sl hl).mono ?_
        rintro e w4 ⟨rfl, h_⟩
        have hs4 := h_.size
        replace HX := Lib.hid (HX.out.below h_ (by omega)); replace HY := Lib.hid (HY.out.below h_ (by omega)); replace HZ := Lib.hid (HZ.out.below h_ (by omega))
        replace HB := Lib.hid (HB.out.trans (h_.mono (by omega)))
        rw [HT.out]
        clear h_
        clear O1
        clear O2
        clear O3
        go_wp2_with fail
        refine (toIntS_any _ _ _ xs _ HX.out hm).mono ?_
        rintro e w5 ⟨v_O1, rfl, h_, o_⟩
        have hs5 := h_.size
        replace HX := Lib.hid (HX.out.below h_ (by omega)); replace HY := Lib.hid (HY.out.below h_ (by omega)); replace HZ := Lib.hid (HZ.out.below h_ (by omega))
        replace HB := Lib.hid (HB.out.trans (h_.mono (by omega)))
        have O1 := Lib.hid (o_)
        clear o_
        clear h_
        go_wp2_with fail
        refine (toIntS_any _ _ _ ys _ HY.out hm').mono ?_
        rintro e w6 ⟨v_O2, rfl, h_, o_⟩
        have hs6 := h_.size
        replace HX := Lib.hid (HX.out.below h_ (by omega)); replace HY := Lib.hid (HY.out.below h_ (by omega)); replace HZ := Lib.hid (HZ.out.below h_ (by omega)); replace O1 := Lib.hid (O1.out.below h_ (by omega))
        replace HB := Lib.hid (HB.out.trans (h_.mono (by omega)))
        have O2 := Lib.hid (o_)
        clear o_
        clear h_
        go_wp2_with fail
        refine (toMoveS_any _ _ _ ms _ HZ.out (by omega) hl).mono ?_
        rintro e w7 ⟨v_O3, rfl, h_, o_⟩
        have hs7 := h_.size
        replace HX := Lib.hid (HX.out.below h_ (by omega)); replace HY := Lib.hid (HY.out.below h_ (by omega)); replace HZ := Lib.hid (HZ.out.below h_ (by omega)); replace O1 := Lib.hid (O1.out.below h_ (by omega)); replace O2 := Lib.hid (O2.out.below h_ (by omega))
        replace HB := Lib.hid (HB.out.trans (h_.mono (by omega)))
        have O3 := Lib.hid (o_)
        clear o_
        clear h_
        go_wp2_with fail
        refine (impl_ProofOk _ _ _ _ _ _ _ _ _ xs ys ms _ (HE.out.below HB.out) O1.out.sl hm O2.out.sl (by omega) hm' O3.out.sl hl).mono ?_
        rintro e w8 ⟨rfl, h_⟩
        have hs8 := h_.size
        replace HX := Lib.hid (HX.out.below h_ (by omega)); replace HY := Lib.hid (HY.out.below h_ (by omega)); replace HZ := Lib.hid (HZ.out.below h_ (by omega)); replace O1 := Lib.hid (O1.out.below h_ (by omega)); replace O2 := Lib.hid (O2.out.below h_ (by omega)); replace O3 := Lib.hid (O3.out.below h_ (by omega))
        replace HB := Lib.hid (HB.out.trans (h_.mono (by omega)))
        rw [HT.out]
        clear h_
        go_wp2_with fail
        refine (toIntS_any _ _ _ xs _ HX.out hm).mono ?_
        rintro e w9 ⟨v_O4, rfl, h_, o_⟩
        have hs9 := h_.size
        replace HX := Lib.hid (HX.out.below h_ (by omega)); replace HY := Lib.hid (HY.out.below h_ (by omega)); replace HZ := Lib.hid (HZ.out.below h_ (by omega)); replace O1 := Lib.hid (O1.out.below h_ (by omega)); replace O2 := Lib.hid (O2.out.below h_ (by omega)); replace O3 := Lib.hid (O3.out.below h_ (by omega))
        replace HB := Lib.hid (HB.out.trans (h_.mono (by omega)))
        have O4 := Lib.hid (o_)
        clear o_
        clear h_
        go_wp2_with fail
        refine (eqIntS_same _ _ _ _ _ _ xs _ O1.out.sl O4.out.sl hm).mono ?_
        rintro e w10 ⟨rfl, h_⟩
        have hs10 := h_.size
        replace HX := Lib.hid (HX.out.below h_ (by omega)); replace HY := Lib.hid (HY.out.below h_ (by omega)); replace HZ := Lib.hid (HZ.out.below h_ (by omega)); replace O1 := Lib.hid (O1.out.below h_ (by omega)); replace O2 := Lib.hid (O2.out.below h_ (by omega)); replace O3 := Lib.hid (O3.out.below h_ (by omega))
        replace HB := Lib.hid (HB.out.trans (h_.mono (by omega)))
        clear h_
        clear O4
        go_wp2_with fail
        refine (toIntS_any _ _ _ ys _ HY.out hm').mono ?_
        rintro e w11 ⟨v_O4, rfl, h_, o_⟩
        have hs11 := h_.size
        replace HX := Lib.hid (HX.out.below h_ (by omega)); replace HY := Lib.hid (HY.out.below h_ (by omega)); replace HZ := Lib.hid (HZ.out.below h_ (by omega)); replace O1 := Lib.hid (O1.out.below h_ (by omega)); replace O2 := Lib.hid (O2.out.below h_ (by omega)); replace O3 := Lib.hid (O3.out.below h_ (by omega))
        replace HB := Lib.hid (HB.out.trans (h_.mono (by omega)))
        have O4 := Lib.hid (o_)
        clear o_
        clear h_
        go_wp2_with fail
        refine (eqIntS_same _ _ _ _ _ _ ys _ O2.out.sl O4.out.sl hm').mono ?_
        rintro e w12 ⟨rfl, h_⟩
        have hs12 := h_.size
        replace HX := Lib.hid (HX.out.below h_ (by omega)); replace HY := Lib.hid (HY.out.below h_ (by omega)); replace HZ := Lib.hid (HZ.out.below h_ (by omega)); replace O1 := Lib.hid (O1.out.below h_ (by omega)); replace O2 := Lib.hid (O2.out.below h_ (by omega)); replace O3 := Lib.hid (O3.out.below h_ (by omega))
        replace HB := Lib.hid (HB.out.trans (h_.mono (by omega)))
        clear h_
        clear O4
        go_wp2_with fail
        refine (toMoveS_any _ _ _ ms _ HZ.out (by omega) hl).mono ?_
        rintro e w13 ⟨v_O4, rfl, h_, o_⟩
        have hs13 := h_.size
        replace HX := Lib.hid (HX.out.below h_ (by omega)); replace HY := Lib.hid (HY.out.below h_ (by omega)); replace HZ := Lib.hid (HZ.out.below h_ (by omega)); replace O1 := Lib.hid (O1.out.below h_ (by omega)); replace O2 := Lib.hid (O2.out.below h_ (by omega)); replace O3 := Lib.hid (O3.out.below h_ (by omega))
        replace HB := Lib.hid (HB.out.trans (h_.mono (by omega)))
        have O4 := Lib.hid (o_)
        clear o_
        clear h_
        go_wp2_with fail
        refine (eqMoveS_same _ _ _ _ _ _ ms _ O3.out.sl O4.out.sl (by omega) (by omega) hl).mono ?_
        rintro e w14 ⟨rfl, h_⟩
        have hs14 := h_.size
        replace HX := Lib.hid (HX.out.below h_ (by omega)); replace HY := Lib.hid (HY.out.below h_ (by omega)); replace HZ := Lib.hid (HZ.out.below h_ (by omega)); replace O1 := Lib.hid (O1.out.below h_ (by omega)); replace O2 := Lib.hid (O2.out.below h_ (by omega)); replace O3 := Lib.hid (O3.out.below h_ (by omega))
        replace HB := Lib.hid (HB.out.trans (h_.mono (by omega)))
        clear h_
        clear O4
        go_wp2
        go_ret
        exact ⟨rfl, HB.out⟩
      · go_enter Tryz.func6, Tryz.ntmps6
        go_wp2_with fail
        refine (szMoveS_any ms.length _ _ 1048576 (-1) hcz (by omega) (by omega) (fun _ => rfl) (by omega) _).mono ?_
        rintro e_ w_ ⟨rfl, rfl⟩
        go_wp2
        go_ret
        exact ⟨rfl, Below.refl _ _⟩
    · go_enter Tryz.func6, Tryz.ntmps6
      go_wp2
      go_ret
      exact ⟨rfl, Below.refl _ _⟩
  · go_enter Tryz.func6, Tryz.ntmps6
    go_wp2
    go_ret
    exact ⟨rfl, Below.refl _ _⟩
end Go.Proofs.YtjpndimhegfbnaaGreatDoor
