/-
  Texts of walks and plain lemmas for this seat; no condition.
-/
import Derived.Test.YtnpnpafdklcjmaaDoorMText2
namespace Go.Proofs.YtnpnpafdklcjmaaDoor
open Go.RowKit

set_option maxHeartbeats 800000 in
theorem toMove_any (m : Mv) (w : World) :
    Calls Tryd.prog 7 #[.agg #[.int .i64 m.which, .bool m.back, .int .i64 m.at_]] w fun e w' => e = .returned (.agg #[.int .i64 m.which, .bool m.back, .int .i64 m.at_]) ∧ Below w.heap.size w w' := by
  go_enter Tryd.func7, Tryd.ntmps7
  go_wp2
  refine bodyPost_ret (v := .agg #[.int .i64 m.which, .bool m.back, .int .i64 m.at_]) (by simp [results, Tryd.results7, go_sem]) rfl ⟨rfl, ?_⟩
  exact (((Below.refl _ _).alloc (Nat.le_refl _) _).alloc (by simp) _).alloc (by simp; omega) _

set_option maxHeartbeats 800000 in
theorem law_FnExactMoveText (m : Mv) (w : World) :
    Calls Tryd.prog 3 #[.agg #[.int .i64 m.which, .bool m.back, .int .i64 m.at_]] w fun e w' => e = .returned (.bool true) ∧ Below w.heap.size w w' := by
  obtain ⟨w0, hw0⟩ : ∃ w0, w0 = w.alloc (.cells #[.int .i64 m.which, .bool m.back, .int .i64 m.at_] 23) := ⟨_, rfl⟩
  have HB : Hid (Below w.heap.size w w0) := by rw [hw0]; exact Lib.hid ((Below.refl _ _).alloc (Nat.le_refl _) _)
  have K : Hid (Blk w.heap.size (.cells #[.int .i64 m.which, .bool m.back, .int .i64 m.at_] 23) w0) := by rw [hw0]; exact Lib.hid (Blk.new w _)
  go_enter Tryd.func3, Tryd.ntmps3
  go_wp2_with fail
  simp only [← hw0]
  clear hw0
  refine (toMove_any m _).mono ?_
  rintro e w1 ⟨rfl, hb⟩
  replace HB := Lib.hid (HB.out.trans (hb.mono HB.out.size))
  replace K := Lib.hid (K.out.below hb K.out.lt)
  clear hb
  go_wp2_with fail
  refine (spec_MoveText m _).mono ?_
  rintro e w2 ⟨rfl, hb⟩
  replace HB := Lib.hid (HB.out.trans (hb.mono HB.out.size))
  replace K := Lib.hid (K.out.below hb K.out.lt)
  clear hb
  have c0 := K.out.cell 0
  have c1 := K.out.cell 1
  have c2 := K.out.cell 2
  go_wp2_with fail
  clear c0 c1 c2
  refine (toMove_any m _).mono ?_
  rintro e w3 ⟨rfl, hb⟩
  replace HB := Lib.hid (HB.out.trans (hb.mono HB.out.size))
  clear hb K
  go_wp2_with fail
  refine (impl_MoveText m _).mono ?_
  rintro e w4 ⟨rfl, hb⟩
  replace HB := Lib.hid (HB.out.trans (hb.mono HB.out.size))
  clear hb
  go_wp2
  go_ret
  exact ⟨rfl, HB.out⟩
end Go.Proofs.YtnpnpafdklcjmaaDoor
