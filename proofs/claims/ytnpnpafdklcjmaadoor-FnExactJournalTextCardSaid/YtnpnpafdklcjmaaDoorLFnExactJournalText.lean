/-
  Texts of walks and plain lemmas for this seat; no condition.
-/
import Derived.Test.YtnpnpafdklcjmaaDoorActEqS
import Derived.Test.YtnpnpafdklcjmaaDoorJournal2
import Derived.Test.YtnpnpafdklcjmaaDoorJournal3
namespace Go.Proofs.YtnpnpafdklcjmaaDoor
open Go.RowKit

set_option maxHeartbeats 800000 in
theorem szActS_ok (lo hi : Nat) (v : Value) (xs : List Ac) (w : World) (hx : SlA lo hi w v xs) (hm : xs.length ≤ 1048576) :
    Calls Tryd.prog 12 #[v, .int .i64 1048576] w fun e w' => e = .returned (.int .i64 (1048576 - xs.length)) ∧ w = w' := by
  obtain ⟨a, cap, rfl, hcap, hcm⟩ := hx.shape
  clear hx hcm
  go_enter Tryd.func12, Tryd.ntmps12
  go_wp2
  go_ret
  exact ⟨rfl, rfl⟩

set_option maxHeartbeats 800000 in
theorem szActS_no (lo hi : Nat) (v : Value) (xs : List Ac) (w : World) (hx : SlA lo hi w v xs) (hm : 1048576 < xs.length) :
    Calls Tryd.prog 12 #[v, .int .i64 1048576] w fun e w' => e = .returned (.int .i64 (-1)) ∧ w = w' := by
  obtain ⟨a, cap, rfl, hcap, hcm⟩ := hx.shape
  unfold maxLen at hcm
  clear hx
  go_enter Tryd.func12, Tryd.ntmps12
  go_wp2
  go_ret
  exact ⟨rfl, rfl⟩

set_option maxRecDepth 100000 in
set_option maxHeartbeats 1600000 in
theorem law_FnExactJournalText (v : Value) (xs : List Ac) (w : World) (hx : SlA 0 w.heap.size w v xs) :
    Calls Tryd.prog 5 #[v] w fun e w' => e = .returned (.bool true) ∧ Below w.heap.size w w' := by
  by_cases hm : xs.length ≤ 1048576
  · have HX := Lib.hid hx
    obtain ⟨a, cap, rfl, hcap, hcm⟩ := hx.shape
    clear hx hcm hcap
    go_enter Tryd.func5, Tryd.ntmps5
    go_wp2_with (go_at_call 12; refine (szActS_ok _ _ _ xs _ HX.out hm).mono ?_; rintro e w' ⟨rfl, rfl⟩)
    refine (toActS_any _ _ _ xs _ HX.out (Nat.le_refl _) hm).mono ?_
    rintro e w1 ⟨v1, rfl, hb1, h1⟩
    obtain ⟨a1, cap1, rfl, _, _⟩ := h1.sl.shape
    have HB := Lib.hid hb1
    have H1 := Lib.hid h1.sl
    clear hb1 h1
    go_wp2_with fail
    refine (spec_JournalText _ _ _ xs _ H1.out hm (Nat.le_refl _)).mono ?_
    rintro e w2 ⟨rfl, hb⟩
    replace HB := Lib.hid (HB.out.trans (hb.mono HB.out.size))
    clear hb H1
    go_wp2_with fail
    have hs2 := HB.out.size
    refine (toActS_any _ _ _ xs _ (HX.out.below HB.out (Nat.le_refl _)) hs2 hm).mono ?_
    rintro e w3 ⟨v3, rfl, hb, h3⟩
    obtain ⟨a3, cap3, rfl, _, _⟩ := h3.sl.shape
    have H3 := Lib.hid h3.sl
    replace HB := Lib.hid (HB.out.trans (hb.mono hs2))
    clear hb h3
    have hs3 := HB.out.size
    go_wp2_with fail
    refine (impl_JournalText _ _ _ xs _ H3.out hm (Nat.le_refl _)).mono ?_
    rintro e w4 ⟨rfl, hb⟩
    have hs4 := hb.size
    replace H3 := Lib.hid (H3.out.below hb (Nat.le_refl _))
    replace HB := Lib.hid (HB.out.trans (hb.mono hs3))
    clear hb
    go_wp2_with fail
    refine (toActS_any _ _ _ xs _ (HX.out.below HB.out (Nat.le_refl _)) HB.out.size hm).mono ?_
    rintro e w5 ⟨v5, rfl, hb, h5⟩
    obtain ⟨a5, cap5, rfl, _, _⟩ := h5.sl.shape
    have H5 := Lib.hid h5.sl
    replace H3 := Lib.hid (H3.out.below hb hs4)
    have hs5 := hb.size
    replace HB := Lib.hid (HB.out.trans (hb.mono HB.out.size))
    clear hb h5
    go_wp2_with fail
    refine (eqActS_any _ _ _ _ _ _ xs xs _ H3.out H5.out (by omega) (Nat.le_refl _) hm).mono ?_
    rintro e w6 ⟨rfl, hb⟩
    replace HB := Lib.hid (HB.out.trans (hb.mono HB.out.size))
    clear hb
    have he : eqAs xs xs = true := by simp [eqAs]
    rw [he]
    clear he
    go_wp2
    go_ret
    exact ⟨rfl, HB.out⟩
  · have HX := Lib.hid hx
    have hm' : 1048576 < xs.length := by omega
    clear hx hm
    go_enter Tryd.func5, Tryd.ntmps5
    go_wp2_with (go_at_call 12; refine (szActS_no _ _ _ xs _ HX.out hm').mono ?_; rintro e w' ⟨rfl, rfl⟩)
    go_ret
    exact ⟨rfl, Below.refl _ _⟩
end Go.Proofs.YtnpnpafdklcjmaaDoor
