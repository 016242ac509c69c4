/-
  Texts of walks and plain lemmas for this seat; no condition.
-/
import Derived.Test.YtacgefknhncgfaaDoorSText
import Derived.Test.YtacgefknhncgfaaDoorGD
namespace Go.Proofs.YtacgefknhncgfaaDoor
open Go.RowKit
set_option linter.unusedVariables false

/-- What KatText tells. -/
def katTxt (e : List Int) : List UInt8 := if katV e then txtK (treeOf e) 1 else []
theorem katTxt_len (e : List Int) : (katTxt e).length ≤ 199 := by
  unfold katTxt
  split
  · rename_i h
    obtain ⟨t, h1, h2, _, h4⟩ := katV_tree h
    rw [← h2, treeOf_post h1]
    exact txt_short h1 h4 1 (by omega)
  · simp
theorem katTxt_post {t : KT} (h : t.ok 0 = true) (hs : t.size ≤ 40) : katTxt t.post = txtK t 1 := by
  rw [katTxt, if_pos (katV_post h hs), treeOf_post h]
set_option maxRecDepth 100000 in
theorem spec_KatText_any (lo hi : Nat) (v : Value) (es : List Int) (w : World) (hx : SlI lo hi w v es) (hm : es.length ≤ 1048576) (hh : hi ≤ w.heap.size) :
    Calls Tryd.prog 12 #[v] w fun e w' => e = .returned (.string ⟨(katTxt es).toArray⟩) ∧ Below w.heap.size w w' := by
  cases hk : katV es with
  | true =>
    obtain ⟨t, h1, h2, _, h4⟩ := katV_tree hk
    subst h2
    rw [katTxt_post h1 h4]
    exact spec_KatText lo hi v t w hx h1 h4 hh
  | false =>
    have HT := Lib.hid (show katTxt es = [] by rw [katTxt, hk]; rfl)
    obtain ⟨a, cap, rfl, _, _⟩ := Sl.shape hx
    have HX := Lib.hid hx
    clear hx
    go_enter Tryd.func12, Tryd.ntmps12
    go_wp2_with fail
    refine (spec_KatValid _ _ _ es _ HX.out (by omega)).mono ?_
    rintro e w1 ⟨rfl, rfl⟩
    rw [hk]
    go_wp2
    go_ret
    exact ⟨by rw [HT.out]; rfl, Below.refl _ _⟩
end Go.Proofs.YtacgefknhncgfaaDoor
