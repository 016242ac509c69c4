/-
  Texts of walks and plain lemmas for this seat; no condition.
-/
import Derived.Test.YtnpnpafdklcjmaaDoorAct3
namespace Go.Proofs.YtnpnpafdklcjmaaDoor
open Go.RowKit

set_option maxHeartbeats 800000 in
theorem law_FnExactActText (a : Ac) (w : World) :
    Calls Tryd.prog 4 #[.agg #[.int .i64 a.kind, .int .i64 a.step.which, .bool a.step.back, .int .i64 a.step.at_, .int .i64 a.count]] w fun e w' => e = .returned (.bool true) ∧ Below w.heap.size w w' := by
  obtain ⟨w0, hw0⟩ : ∃ w0, w0 = w.alloc (.cells #[.int .i64 a.kind, .int .i64 a.step.which, .bool a.step.back, .int .i64 a.step.at_, .int .i64 a.count] 29) := ⟨_, rfl⟩
  have HB : Hid (Below w.heap.size w w0) := by rw [hw0]; exact Lib.hid ((Below.refl _ _).alloc (Nat.le_refl _) _)
  have K : Hid (Blk w.heap.size (.cells #[.int .i64 a.kind, .int .i64 a.step.which, .bool a.step.back, .int .i64 a.step.at_, .int .i64 a.count] 29) w0) := by rw [hw0]; exact Lib.hid (Blk.new w _)
  go_enter Tryd.func4, Tryd.ntmps4
  go_wp2_with fail
  simp only [← hw0]
  clear hw0
  refine (toAct_any a _).mono ?_
  rintro e w1 ⟨rfl, hb⟩
  replace HB := Lib.hid (HB.out.trans (hb.mono HB.out.size))
  replace K := Lib.hid (K.out.below hb K.out.lt)
  clear hb
  go_wp2_with fail
  refine (spec_ActText a _).mono ?_
  rintro e w2 ⟨rfl, hb⟩
  replace HB := Lib.hid (HB.out.trans (hb.mono HB.out.size))
  replace K := Lib.hid (K.out.below hb K.out.lt)
  clear hb
  have c0 := K.out.cell 0
  have c1 := K.out.cell 1
  have c2 := K.out.cell 2
  have c3 := K.out.cell 3
  have c4 := K.out.cell 4
  go_wp2_with fail
  clear c0 c1 c2 c3 c4
  refine (toAct_any a _).mono ?_
  rintro e w3 ⟨rfl, hb⟩
  replace HB := Lib.hid (HB.out.trans (hb.mono HB.out.size))
  clear hb K
  go_wp2_with fail
  refine (impl_ActText a _).mono ?_
  rintro e w4 ⟨rfl, hb⟩
  replace HB := Lib.hid (HB.out.trans (hb.mono HB.out.size))
  clear hb
  go_wp2
  go_ret
  exact ⟨rfl, HB.out⟩
end Go.Proofs.YtnpnpafdklcjmaaDoor
