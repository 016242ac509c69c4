/-
  Texts of walks and plain lemmas for this seat; no condition.
-/
import Derived.Test.YtacgefknhncgfaaDoorITextB
import Derived.Test.YtacgefknhncgfaaDoorGE
namespace Go.Proofs.YtacgefknhncgfaaDoor
open Go.RowKit
set_option linter.unusedVariables false

set_option maxRecDepth 100000 in
theorem impl_KatText_any (v : Value) (es : List Int) (w : World) (hx : RdI w v es) (hm : es.length ≤ 1048576) (hM : MapT w) :
    Calls Tryd.prog 10 #[v] w fun e w' => e = .returned (.string ⟨(katTxt es).toArray⟩) ∧ Below w.heap.size w w' := by
  cases hk : katV es with
  | true =>
    obtain ⟨t, h1, h2, ht, h4⟩ := katV_tree hk
    subst h2
    rw [katTxt_post h1 h4]
    have hl : t.post.length ≤ 40 := by rw [KT.post_length]; exact h4
    obtain ⟨a, cap, rfl, _, _⟩ := Sl.shape hx
    have HX := Lib.hid hx
    have HM := Lib.hid hM
    have HT := Lib.hid ht
    have HK := Lib.hid hk
    clear hx hM ht hk
    go_enter Tryd.func10, Tryd.ntmps10
    go_wp2_with fail
    refine (impl_KatValid _ _ _ t.post _ HX.out (by omega)).mono ?_
    rintro e w1 ⟨rfl, rfl⟩
    rw [HK.out]
    go_wp2_with fail
    refine (implBuild _ t.post t _ HX.out (by omega) HT.out).mono ?_
    rintro e w2 ⟨p, rfl, hb, hp⟩
    have HB := Lib.hid hb
    have HP := Lib.hid hp
    have HM2 := Lib.hid (HM.out.below hb)
    clear hb hp
    go_wp2_with fail
    refine (text_any t _ _ _ HP.out h1 h4 HM2.out).mono ?_
    rintro e w3 ⟨rfl, hb⟩
    have HB3 := Lib.hid (HB.out.trans (hb.mono HB.out.size))
    clear hb
    go_wp2
    go_ret
    exact ⟨rfl, HB3.out⟩
  | false =>
    have HT := Lib.hid (show katTxt es = [] by rw [katTxt, hk]; rfl)
    obtain ⟨a, cap, rfl, _, _⟩ := Sl.shape hx
    have HX := Lib.hid hx
    clear hx
    go_enter Tryd.func10, Tryd.ntmps10
    go_wp2_with fail
    refine (impl_KatValid _ _ _ es _ HX.out (by omega)).mono ?_
    rintro e w1 ⟨rfl, rfl⟩
    rw [hk]
    go_wp2
    go_ret
    exact ⟨by rw [HT.out]; rfl, Below.refl _ _⟩
end Go.Proofs.YtacgefknhncgfaaDoor
