/-
  Texts of walks and plain lemmas for this seat; no condition.
-/
import Derived.Test.YtjpndimhegfbnaaGreatDoorGI
import Derived.Test.YtjpndimhegfbnaaGreatDoorGG
import Derived.Test.YtjpndimhegfbnaaGreatDoorGA
namespace Go.Proofs.YtjpndimhegfbnaaGreatDoor
open Go.RowKit

theorem proofV_len (xs : List Int) (ms : List Mv) : ((proofV xs ms).getD []).length ≤ 40 := by
  cases h : proofV xs ms with
  | none => simp
  | some x => exact (kat_len (proofV_kat h)).2

set_option maxRecDepth 100000 in
set_option maxHeartbeats 6400000 in
theorem law_FnExactProofRun (v : Value) (xs : List Int) (vz : Value) (ms : List Mv) (w : World) (hx : SlI 0 w.heap.size w v xs) (hz : SlM 0 w.heap.size w vz ms) (hE : EnvK w) :
    Calls Tryz.prog 8 #[v, vz] w fun e w' => e = .returned (.bool true) ∧ Below w.heap.size w w' := by
  have HX := Lib.hid hx
  have HZ := Lib.hid hz
  have HE := Lib.hid hE
  obtain ⟨a, cap, rfl, hcap, hcm⟩ := Sl.shape hx
  obtain ⟨az, capz, rfl, hcapz, hcmz⟩ := hz.shape
  unfold maxLen at hcm hcmz
  have hcz : ms.length ≤ 9223372036854775807 := by omega
  clear hx hz hE
  by_cases hm : xs.length ≤ 1048576
  · by_cases hl : ms.length ≤ 1048576
    · have hout := proofV_len xs ms
      obtain ⟨t, ht⟩ : ∃ t, (proofV xs ms).isSome = t := ⟨_, rfl⟩
      obtain ⟨out, hd⟩ : ∃ out, (proofV xs ms).getD [] = out := ⟨_, rfl⟩
      rw [hd] at hout
      have HT := Lib.hid ht
      have HD := Lib.hid hd
      have htt : (t != t) = false := by simp
      have ho : out.length ≤ 1048576 := by omega
      have hcnt : ((1 + (out.length : Int)) != 1 + out.length) = false := by simp
      have hlz : ¬ (1048576 : Int) - ms.length < 0 := by omega
      clear ht hd
      go_enter Tryz.func8, Tryz.ntmps8
      go_wp2_with fail
      refine (szMoveS_any ms.length _ _ 1048576 (1048576 - ms.length) hcz (by omega) (by omega) (by omega) (fun _ => rfl) _).mono ?_
      rintro e_ w_ ⟨rfl, rfl⟩
      go_wp2_with fail
      refine (toIntS_any _ _ _ xs _ HX.out hm).mono ?_
      rintro e w1 ⟨v_O1, rfl, h_, o_⟩
      have hs1 := h_.size
      replace HX := Lib.hid (HX.out.below h_ (by omega)); replace HZ := Lib.hid (HZ.out.below h_ (by omega))
      have HB := Lib.hid (h_)
      have O1 := Lib.hid (o_)
      clear o_
      clear h_
      go_wp2_with fail
      refine (toMoveS_any _ _ _ ms _ HZ.out (by omega) hl).mono ?_
      rintro e w2 ⟨v_O3, rfl, h_, o_⟩
      have hs2 := h_.size
      replace HX := Lib.hid (HX.out.below h_ (by omega)); replace HZ := Lib.hid (HZ.out.below h_ (by omega)); replace O1 := Lib.hid (O1.out.below h_ (by omega))
      replace HB := Lib.hid (HB.out.trans (h_.mono (by omega)))
      have O3 := Lib.hid (o_)
      clear o_
      clear h_
      go_wp2_with fail
      refine (spec_ProofRun _ _ _ _ _ _ xs ms _ O1.out.sl hm O3.out.sl hl).mono ?_
      rintro e w3 ⟨vd, _, rfl, h_, rfl, o_⟩
      have hs3 := h_.size
      replace HX := Lib.hid (HX.out.below h_ (by omega)); replace HZ := Lib.hid (HZ.out.below h_ (by omega))
      replace HB := Lib.hid (HB.out.trans (h_.mono (by omega)))
      have OD := Lib.hid ((HD.out ▸ o_ : OwnI _ _ _ _ _ out).sl)
      clear o_
      rw [HT.out]
      clear h_
      clear O1
      clear O3
      obtain ⟨vd1, vd2, rfl, _, _⟩ := Sl.shape OD.out
      go_wp2_with fail
      refine (toIntS_any _ _ _ xs _ HX.out hm).mono ?_
      rintro e w4 ⟨v_O1, rfl, h_, o_⟩
      have hs4 := h_.size
      replace HX := Lib.hid (HX.out.below h_ (by omega)); replace HZ := Lib.hid (HZ.out.below h_ (by omega)); replace OD := Lib.hid (OD.out.below h_ (by omega))
      replace HB := Lib.hid (HB.out.trans (h_.mono (by omega)))
      have O1 := Lib.hid (o_)
      clear o_
      clear h_
      go_wp2_with fail
      refine (toMoveS_any _ _ _ ms _ HZ.out (by omega) hl).mono ?_
      rintro e w5 ⟨v_O3, rfl, h_, o_⟩
      have hs5 := h_.size
      replace HX := Lib.hid (HX.out.below h_ (by omega)); replace HZ := Lib.hid (HZ.out.below h_ (by omega)); replace OD := Lib.hid (OD.out.below h_ (by omega)); replace O1 := Lib.hid (O1.out.below h_ (by omega))
      replace HB := Lib.hid (HB.out.trans (h_.mono (by omega)))
      have O3 := Lib.hid (o_)
      clear o_
      clear h_
      go_wp2_with fail
      refine (impl_ProofRun _ _ _ _ _ _ xs ms _ (HE.out.below HB.out) O1.out.sl hm O3.out.sl hl).mono ?_
      rintro e w6 ⟨vg, _, rfl, h_, rfl, o_⟩
      have hs6 := h_.size
      replace HX := Lib.hid (HX.out.below h_ (by omega)); replace HZ := Lib.hid (HZ.out.below h_ (by omega)); replace OD := Lib.hid (OD.out.below h_ (by omega)); replace O1 := Lib.hid (O1.out.below h_ (by omega)); replace O3 := Lib.hid (O3.out.below h_ (by omega))
      replace HB := Lib.hid (HB.out.trans (h_.mono (by omega)))
      have OG := Lib.hid ((HD.out ▸ o_ : OwnI _ _ _ _ _ out))
      clear o_
      rw [HT.out]
      clear h_
      obtain ⟨vg1, vg2, rfl, _, _⟩ := Sl.shape OG.out.sl
      go_wp2_with fail
      refine (eqIntS_same _ _ _ _ _ _ out _ OG.out.sl OD.out ho).mono ?_
      rintro e w7 ⟨rfl, h_⟩
      have hs7 := h_.size
      replace HX := Lib.hid (HX.out.below h_ (by omega)); replace HZ := Lib.hid (HZ.out.below h_ (by omega)); replace OD := Lib.hid (OD.out.below h_ (by omega)); replace O1 := Lib.hid (O1.out.below h_ (by omega)); replace O3 := Lib.hid (O3.out.below h_ (by omega)); replace OG := Lib.hid (OG.out.below h_ (by omega))
      replace HB := Lib.hid (HB.out.trans (h_.mono (by omega)))
      clear h_
      go_wp2_with fail
      refine (toIntS_any _ _ _ xs _ HX.out hm).mono ?_
      rintro e w8 ⟨v_O4, rfl, h_, o_⟩
      have hs8 := h_.size
      replace HX := Lib.hid (HX.out.below h_ (by omega)); replace HZ := Lib.hid (HZ.out.below h_ (by omega)); replace OD := Lib.hid (OD.out.below h_ (by omega)); replace O1 := Lib.hid (O1.out.below h_ (by omega)); replace O3 := Lib.hid (O3.out.below h_ (by omega)); replace OG := Lib.hid (OG.out.below h_ (by omega))
      replace HB := Lib.hid (HB.out.trans (h_.mono (by omega)))
      have O4 := Lib.hid (o_)
      clear o_
      clear h_
      go_wp2_with fail
      refine (eqIntS_same _ _ _ _ _ _ xs _ O1.out.sl O4.out.sl hm).mono ?_
      rintro e w9 ⟨rfl, h_⟩
      have hs9 := h_.size
      replace HX := Lib.hid (HX.out.below h_ (by omega)); replace HZ := Lib.hid (HZ.out.below h_ (by omega)); replace OD := Lib.hid (OD.out.below h_ (by omega)); replace O1 := Lib.hid (O1.out.below h_ (by omega)); replace O3 := Lib.hid (O3.out.below h_ (by omega)); replace OG := Lib.hid (OG.out.below h_ (by omega))
      replace HB := Lib.hid (HB.out.trans (h_.mono (by omega)))
      clear h_
      clear O4
      go_wp2_with fail
      refine (toMoveS_any _ _ _ ms _ HZ.out (by omega) hl).mono ?_
      rintro e w10 ⟨v_O4, rfl, h_, o_⟩
      have hs10 := h_.size
      replace HX := Lib.hid (HX.out.below h_ (by omega)); replace HZ := Lib.hid (HZ.out.below h_ (by omega)); replace OD := Lib.hid (OD.out.below h_ (by omega)); replace O1 := Lib.hid (O1.out.below h_ (by omega)); replace O3 := Lib.hid (O3.out.below h_ (by omega)); replace OG := Lib.hid (OG.out.below h_ (by omega))
      replace HB := Lib.hid (HB.out.trans (h_.mono (by omega)))
      have O4 := Lib.hid (o_)
      clear o_
      clear h_
      go_wp2_with fail
      refine (eqMoveS_same _ _ _ _ _ _ ms _ O3.out.sl O4.out.sl (by omega) (by omega) hl).mono ?_
      rintro e w11 ⟨rfl, h_⟩
      have hs11 := h_.size
      replace HX := Lib.hid (HX.out.below h_ (by omega)); replace HZ := Lib.hid (HZ.out.below h_ (by omega)); replace OD := Lib.hid (OD.out.below h_ (by omega)); replace O1 := Lib.hid (O1.out.below h_ (by omega)); replace O3 := Lib.hid (O3.out.below h_ (by omega)); replace OG := Lib.hid (OG.out.below h_ (by omega))
      replace HB := Lib.hid (HB.out.trans (h_.mono (by omega)))
      clear h_
      clear O4
      go_wp2_with fail
      refine (markIntS_any _ _ _ xs 1 _ O1.out hm (by omega) (by omega)).mono ?_
      rintro e w12 ⟨rfl, h_, o_⟩
      have hs12 := h_.size
      replace HX := Lib.hid (HX.out.outside h_ (by omega)); replace HZ := Lib.hid (HZ.out.outside h_ (by omega)); replace OD := Lib.hid (OD.out.outside h_ (by omega)); replace O3 := Lib.hid (O3.out.outside h_ (by omega)); replace OG := Lib.hid (OG.out.outside h_ (by omega))
      replace HB := Lib.hid (Below.outside HB.out h_ (by omega) (by omega))
      clear O1 o_
      clear h_
      go_wp2_with fail
      refine (markMoveS_any _ _ _ ms _ _ O3.out hl (by omega) (by omega)).mono ?_
      rintro e w13 ⟨rfl, h_, o_⟩
      have hs13 := h_.size
      replace HX := Lib.hid (HX.out.outside h_ (by omega)); replace HZ := Lib.hid (HZ.out.outside h_ (by omega)); replace OD := Lib.hid (OD.out.outside h_ (by omega)); replace OG := Lib.hid (OG.out.outside h_ (by omega))
      replace HB := Lib.hid (Below.outside HB.out h_ (by omega) (by omega))
      clear O3 o_
      clear h_
      go_wp2_with fail
      refine (eqIntS_same _ _ _ _ _ _ out _ OG.out.sl OD.out ho).mono ?_
      rintro e w14 ⟨rfl, h_⟩
      have hs14 := h_.size
      replace HX := Lib.hid (HX.out.below h_ (by omega)); replace HZ := Lib.hid (HZ.out.below h_ (by omega)); replace OD := Lib.hid (OD.out.below h_ (by omega)); replace OG := Lib.hid (OG.out.below h_ (by omega))
      replace HB := Lib.hid (HB.out.trans (h_.mono (by omega)))
      clear h_
      go_wp2_with fail
      refine (markIntS_any _ _ _ out 1 _ OG.out ho (by omega) (by omega)).mono ?_
      rintro e w15 ⟨rfl, h_, o_⟩
      have hs15 := h_.size
      replace HX := Lib.hid (HX.out.outside h_ (by omega)); replace HZ := Lib.hid (HZ.out.outside h_ (by omega)); replace OD := Lib.hid (OD.out.outside h_ (by omega))
      replace HB := Lib.hid (Below.outside HB.out h_ (by omega) (by omega))
      replace OG := Lib.hid (o_)
      clear o_
      clear h_
      go_wp2_with fail
      refine (heldIntS_any _ _ _ out.length 1 _ OG.out.sl ho (by omega) (by omega)).mono ?_
      rintro e w_ ⟨rfl, rfl⟩
      go_wp2_with fail
      refine (toIntS_any _ _ _ xs _ HX.out hm).mono ?_
      rintro e w16 ⟨v_O1, rfl, h_, o_⟩
      have hs16 := h_.size
      replace HX := Lib.hid (HX.out.below h_ (by omega)); replace HZ := Lib.hid (HZ.out.below h_ (by omega)); replace OD := Lib.hid (OD.out.below h_ (by omega)); replace OG := Lib.hid (OG.out.below h_ (by omega))
      replace HB := Lib.hid (HB.out.trans (h_.mono (by omega)))
      have O1 := Lib.hid (o_)
      clear o_
      clear h_
      go_wp2_with fail
      refine (toMoveS_any _ _ _ ms _ HZ.out (by omega) hl).mono ?_
      rintro e w17 ⟨v_O3, rfl, h_, o_⟩
      have hs17 := h_.size
      replace HX := Lib.hid (HX.out.below h_ (by omega)); replace HZ := Lib.hid (HZ.out.below h_ (by omega)); replace OD := Lib.hid (OD.out.below h_ (by omega)); replace OG := Lib.hid (OG.out.below h_ (by omega)); replace O1 := Lib.hid (O1.out.below h_ (by omega))
      replace HB := Lib.hid (HB.out.trans (h_.mono (by omega)))
      have O3 := Lib.hid (o_)
      clear o_
      clear h_
      go_wp2_with fail
      refine (impl_ProofRun _ _ _ _ _ _ xs ms _ (HE.out.below HB.out) O1.out.sl hm O3.out.sl hl).mono ?_
      rintro e w18 ⟨vh, _, rfl, h_, rfl, o_⟩
      have hs18 := h_.size
      replace HX := Lib.hid (HX.out.below h_ (by omega)); replace HZ := Lib.hid (HZ.out.below h_ (by omega)); replace OD := Lib.hid (OD.out.below h_ (by omega)); replace OG := Lib.hid (OG.out.below h_ (by omega))
      replace HB := Lib.hid (HB.out.trans (h_.mono (by omega)))
      have OH := Lib.hid ((HD.out ▸ o_ : OwnI _ _ _ _ _ out).sl)
      clear o_
      rw [HT.out]
      clear h_
      clear O1
      clear O3
      obtain ⟨vh1, vh2, rfl, _, _⟩ := Sl.shape OH.out
      go_wp2_with fail
      refine (eqIntS_same _ _ _ _ _ _ out _ OH.out OD.out ho).mono ?_
      rintro e w19 ⟨rfl, h_⟩
      have hs19 := h_.size
      replace HX := Lib.hid (HX.out.below h_ (by omega)); replace HZ := Lib.hid (HZ.out.below h_ (by omega)); replace OD := Lib.hid (OD.out.below h_ (by omega)); replace OG := Lib.hid (OG.out.below h_ (by omega)); replace OH := Lib.hid (OH.out.below h_ (by omega))
      replace HB := Lib.hid (HB.out.trans (h_.mono (by omega)))
      clear h_
      go_wp2_with fail
      refine (heldIntS_any _ _ _ out.length 1 _ OG.out.sl ho (by omega) (by omega)).mono ?_
      rintro e w_ ⟨rfl, rfl⟩
      go_wp2
      go_ret
      exact ⟨rfl, HB.out⟩
    · go_enter Tryz.func8, Tryz.ntmps8
      go_wp2_with fail
      refine (szMoveS_any ms.length _ _ 1048576 (-1) hcz (by omega) (by omega) (fun _ => rfl) (by omega) _).mono ?_
      rintro e_ w_ ⟨rfl, rfl⟩
      go_wp2
      go_ret
      exact ⟨rfl, Below.refl _ _⟩
  · go_enter Tryz.func8, Tryz.ntmps8
    go_wp2
    go_ret
    exact ⟨rfl, Below.refl _ _⟩
end Go.Proofs.YtjpndimhegfbnaaGreatDoor
