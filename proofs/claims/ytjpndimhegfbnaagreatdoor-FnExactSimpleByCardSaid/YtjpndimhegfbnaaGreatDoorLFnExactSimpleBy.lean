/-
  Texts of walks and plain lemmas for this seat; no condition.
-/
import Derived.Test.YtjpndimhegfbnaaGreatDoorGJ
import Derived.Test.YtjpndimhegfbnaaGreatDoorGG
import Derived.Test.YtjpndimhegfbnaaGreatDoorGA
namespace Go.Proofs.YtjpndimhegfbnaaGreatDoor
open Go.RowKit

set_option maxRecDepth 100000 in
set_option maxHeartbeats 6400000 in
theorem law_FnExactSimpleBy (v : Value) (xs : List Int) (w : World) (hx : SlI 0 w.heap.size w v xs) (hE : EnvK w) :
    Calls Tryz.prog 9 #[v] w fun e w' => e = .returned (.bool true) ∧ Below w.heap.size w w' := by
  have HX := Lib.hid hx
  have HE := Lib.hid hE
  obtain ⟨a, cap, rfl, hcap, hcm⟩ := Sl.shape hx
  unfold maxLen at hcm
  clear hx hE
  by_cases hm : xs.length ≤ 1048576
  · have hout := simpBy_len xs
    obtain ⟨out, hd⟩ : ∃ out, simpBy xs = out := ⟨_, rfl⟩
    rw [hd] at hout
    have HS : Hid (∀ v wx, RdI wx v xs → Calls Tryz.prog 46 #[v] wx (RetV fun v w' => Below wx.heap.size wx w' ∧ OwnM wx.heap.size w'.heap.size 66 w' v out)) := Lib.hid (fun v wx h => by rw [← hd]; exact spec_SimpleBy v xs wx h hm)
    have HI : Hid (∀ v wx, EnvK wx → RdI wx v xs → Calls Tryz.prog 47 #[v] wx (RetV fun v w' => Below wx.heap.size wx w' ∧ OwnM wx.heap.size w'.heap.size 66 w' v out)) := Lib.hid (fun v wx hE h => by rw [← hd]; exact impl_SimpleBy v xs wx hE h hm)
    have ho : out.length ≤ 1048576 := by omega
    have hcnt : ((1 + 3 * (out.length : Int)) != 1 + 3 * (out.length : Int)) = false := by simp
    clear hd
    go_enter Tryz.func9, Tryz.ntmps9
    go_wp2_with fail
    refine (toIntS_any _ _ _ xs _ HX.out hm).mono ?_
    rintro e w1 ⟨v_O1, rfl, h_, o_⟩
    have hs1 := h_.size
    replace HX := Lib.hid (HX.out.below h_ (by omega))
    have HB := Lib.hid (h_)
    have O1 := Lib.hid (o_)
    clear o_
    clear h_
    go_wp2_with fail
    refine (HS.out _ _ (SlI.rd O1.out.sl (by omega))).mono ?_
    rintro e w2 ⟨vd, rfl, h_, o_⟩
    have hs2 := h_.size
    replace HX := Lib.hid (HX.out.below h_ (by omega))
    replace HB := Lib.hid (HB.out.trans (h_.mono (by omega)))
    have OD := Lib.hid (o_.sl)
    clear o_
    clear h_
    clear O1
    obtain ⟨vd1, vd2, rfl, _, _⟩ := Sl.shape OD.out
    go_wp2_with fail
    refine (toIntS_any _ _ _ xs _ HX.out hm).mono ?_
    rintro e w3 ⟨v_O1, rfl, h_, o_⟩
    have hs3 := h_.size
    replace HX := Lib.hid (HX.out.below h_ (by omega)); replace OD := Lib.hid (OD.out.below h_ (by omega))
    replace HB := Lib.hid (HB.out.trans (h_.mono (by omega)))
    have O1 := Lib.hid (o_)
    clear o_
    clear h_
    go_wp2_with fail
    refine (HI.out _ _ (HE.out.below HB.out) (SlI.rd O1.out.sl (by omega))).mono ?_
    rintro e w4 ⟨vg, rfl, h_, o_⟩
    have hs4 := h_.size
    replace HX := Lib.hid (HX.out.below h_ (by omega)); replace OD := Lib.hid (OD.out.below h_ (by omega)); replace O1 := Lib.hid (O1.out.below h_ (by omega))
    replace HB := Lib.hid (HB.out.trans (h_.mono (by omega)))
    have OG := Lib.hid (o_)
    clear o_
    clear h_
    obtain ⟨vg1, vg2, rfl, _, _⟩ := Sl.shape OG.out.sl
    go_wp2_with fail
    refine (eqMoveS_same _ _ _ _ _ _ out _ OG.out.sl OD.out (by omega) (by omega) ho).mono ?_
    rintro e w5 ⟨rfl, h_⟩
    have hs5 := h_.size
    replace HX := Lib.hid (HX.out.below h_ (by omega)); replace OD := Lib.hid (OD.out.below h_ (by omega)); replace O1 := Lib.hid (O1.out.below h_ (by omega)); replace OG := Lib.hid (OG.out.below h_ (by omega))
    replace HB := Lib.hid (HB.out.trans (h_.mono (by omega)))
    clear h_
    go_wp2_with fail
    refine (toIntS_any _ _ _ xs _ HX.out hm).mono ?_
    rintro e w6 ⟨v_O4, rfl, h_, o_⟩
    have hs6 := h_.size
    replace HX := Lib.hid (HX.out.below h_ (by omega)); replace OD := Lib.hid (OD.out.below h_ (by omega)); replace O1 := Lib.hid (O1.out.below h_ (by omega)); replace OG := Lib.hid (OG.out.below h_ (by omega))
    replace HB := Lib.hid (HB.out.trans (h_.mono (by omega)))
    have O4 := Lib.hid (o_)
    clear o_
    clear h_
    go_wp2_with fail
    refine (eqIntS_same _ _ _ _ _ _ xs _ O1.out.sl O4.out.sl hm).mono ?_
    rintro e w7 ⟨rfl, h_⟩
    have hs7 := h_.size
    replace HX := Lib.hid (HX.out.below h_ (by omega)); replace OD := Lib.hid (OD.out.below h_ (by omega)); replace O1 := Lib.hid (O1.out.below h_ (by omega)); replace OG := Lib.hid (OG.out.below h_ (by omega))
    replace HB := Lib.hid (HB.out.trans (h_.mono (by omega)))
    clear h_
    clear O4
    go_wp2_with fail
    refine (markIntS_any _ _ _ xs 1 _ O1.out hm (by omega) (by omega)).mono ?_
    rintro e w8 ⟨rfl, h_, o_⟩
    have hs8 := h_.size
    replace HX := Lib.hid (HX.out.outside h_ (by omega)); replace OD := Lib.hid (OD.out.outside h_ (by omega)); replace OG := Lib.hid (OG.out.outside h_ (by omega))
    replace HB := Lib.hid (Below.outside HB.out h_ (by omega) (by omega))
    clear O1 o_
    clear h_
    go_wp2_with fail
    refine (eqMoveS_same _ _ _ _ _ _ out _ OG.out.sl OD.out (by omega) (by omega) ho).mono ?_
    rintro e w9 ⟨rfl, h_⟩
    have hs9 := h_.size
    replace HX := Lib.hid (HX.out.below h_ (by omega)); replace OD := Lib.hid (OD.out.below h_ (by omega)); replace OG := Lib.hid (OG.out.below h_ (by omega))
    replace HB := Lib.hid (HB.out.trans (h_.mono (by omega)))
    clear h_
    go_wp2_with fail
    refine (markMoveS_any _ _ _ out 1 _ OG.out ho (by omega) (by omega)).mono ?_
    rintro e w10 ⟨rfl, h_, o_⟩
    have hs10 := h_.size
    replace HX := Lib.hid (HX.out.outside h_ (by omega)); replace OD := Lib.hid (OD.out.outside h_ (by omega))
    replace HB := Lib.hid (Below.outside HB.out h_ (by omega) (by omega))
    replace OG := Lib.hid (o_)
    clear o_
    clear h_
    go_wp2_with fail
    refine (heldMoveS_any _ _ _ out.length 1 _ OG.out.sl ho (by omega) (by omega)).mono ?_
    rintro e w_ ⟨rfl, rfl⟩
    go_wp2_with fail
    refine (toIntS_any _ _ _ xs _ HX.out hm).mono ?_
    rintro e w11 ⟨v_O1, rfl, h_, o_⟩
    have hs11 := h_.size
    replace HX := Lib.hid (HX.out.below h_ (by omega)); replace OD := Lib.hid (OD.out.below h_ (by omega)); replace OG := Lib.hid (OG.out.below h_ (by omega))
    replace HB := Lib.hid (HB.out.trans (h_.mono (by omega)))
    have O1 := Lib.hid (o_)
    clear o_
    clear h_
    go_wp2_with fail
    refine (HI.out _ _ (HE.out.below HB.out) (SlI.rd O1.out.sl (by omega))).mono ?_
    rintro e w12 ⟨vh, rfl, h_, o_⟩
    have hs12 := h_.size
    replace HX := Lib.hid (HX.out.below h_ (by omega)); replace OD := Lib.hid (OD.out.below h_ (by omega)); replace OG := Lib.hid (OG.out.below h_ (by omega))
    replace HB := Lib.hid (HB.out.trans (h_.mono (by omega)))
    have OH := Lib.hid (o_.sl)
    clear o_
    clear h_
    clear O1
    obtain ⟨vh1, vh2, rfl, _, _⟩ := Sl.shape OH.out
    go_wp2_with fail
    refine (eqMoveS_same _ _ _ _ _ _ out _ OH.out OD.out (by omega) (by omega) ho).mono ?_
    rintro e w13 ⟨rfl, h_⟩
    have hs13 := h_.size
    replace HX := Lib.hid (HX.out.below h_ (by omega)); replace OD := Lib.hid (OD.out.below h_ (by omega)); replace OG := Lib.hid (OG.out.below h_ (by omega)); replace OH := Lib.hid (OH.out.below h_ (by omega))
    replace HB := Lib.hid (HB.out.trans (h_.mono (by omega)))
    clear h_
    go_wp2_with fail
    refine (heldMoveS_any _ _ _ out.length 1 _ OG.out.sl ho (by omega) (by omega)).mono ?_
    rintro e w_ ⟨rfl, rfl⟩
    go_wp2
    go_ret
    exact ⟨rfl, HB.out⟩
  · go_enter Tryz.func9, Tryz.ntmps9
    go_wp2
    go_ret
    exact ⟨rfl, Below.refl _ _⟩
end Go.Proofs.YtjpndimhegfbnaaGreatDoor
