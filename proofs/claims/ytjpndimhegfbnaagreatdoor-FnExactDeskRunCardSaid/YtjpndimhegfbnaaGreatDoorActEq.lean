/-
  Texts of walks and plain lemmas for this seat; no condition.
-/
import Derived.Test.YtjpndimhegfbnaaGreatDoorAct
import Derived.Test.YtjpndimhegfbnaaGreatDoorGA
import Derived.Test.YtjpndimhegfbnaaGreatDoorGG
import Derived.Deep.RegionWith
namespace Go.Proofs.YtjpndimhegfbnaaGreatDoor
open Go.RowKit

def eqAc (m n : Ac) : Bool := decide (m = n)

set_option maxRecDepth 100000 in
set_option maxHeartbeats 1600000 in
theorem eqAct_any (a b : Ac) (w : World) :
    Calls Tryz.prog 95 #[.agg #[.int .i64 a.kind, .int .i64 a.step.which, .bool a.step.back, .int .i64 a.step.at_, .int .i64 a.count], .agg #[.int .i64 b.kind, .int .i64 b.step.which, .bool b.step.back, .int .i64 b.step.at_, .int .i64 b.count]] w fun e w' => e = .returned (.bool (eqAc a b)) ∧ Below w.heap.size w w' := by
  obtain ⟨k, m, c⟩ := a
  obtain ⟨k', m', c'⟩ := b
  obtain ⟨w0, hw0⟩ : ∃ w0, w0 = (w.alloc (.cells #[.int .i64 k, .int .i64 m.which, .bool m.back, .int .i64 m.at_, .int .i64 c] 74)).alloc (.cells #[.int .i64 k', .int .i64 m'.which, .bool m'.back, .int .i64 m'.at_, .int .i64 c'] 74) := ⟨_, rfl⟩
  have HB : Hid (Below w.heap.size w w0) := by rw [hw0]; exact Lib.hid (((Below.refl _ _).alloc (Nat.le_refl _) _).alloc (by simp) _)
  have K : Hid (Blk w.heap.size (.cells #[.int .i64 k, .int .i64 m.which, .bool m.back, .int .i64 m.at_, .int .i64 c] 74) w0) := by
    rw [hw0]; exact Lib.hid ((Blk.new w _).below (B := w.heap.size + 1) ((Below.refl _ _).alloc (by simp) _) (by omega))
  have K' : Hid (Blk (w.heap.size + 1) (.cells #[.int .i64 k', .int .i64 m'.which, .bool m'.back, .int .i64 m'.at_, .int .i64 c'] 74) w0) := by
    rw [hw0]; rw [← alloc_size w (.cells #[.int .i64 k, .int .i64 m.which, .bool m.back, .int .i64 m.at_, .int .i64 c] 74)]; exact Lib.hid (Blk.new _ _)
  have a0 := K.out.cell 0
  have a1 := K.out.cell 1
  have a2 := K.out.cell 2
  have a3 := K.out.cell 3
  have a4 := K.out.cell 4
  have b0 := K'.out.cell 0
  have b1 := K'.out.cell 1
  have b2 := K'.out.cell 2
  have b3 := K'.out.cell 3
  have b4 := K'.out.cell 4
  cases h1 : k != k'
  · have H1 : Hid (k = k') := by simpa using Lib.hid h1
    go_enter Tryz.func95, Tryz.ntmps95
    go_wp2_with fail
    simp only [← hw0]
    clear hw0
    go_wp2_with fail
    refine (eqMove_any m m' _).mono ?_
    rintro e w1 ⟨rfl, hb⟩
    clear a0 a1 a2 a3 a4 b0 b1 b2 b3 b4
    replace HB := Lib.hid (HB.out.trans (hb.mono HB.out.size))
    replace K := Lib.hid (K.out.below hb K.out.lt)
    replace K' := Lib.hid (K'.out.below hb K'.out.lt)
    clear hb
    have a4 := K.out.cell 4
    have b4 := K'.out.cell 4
    cases hq : eqMv m m'
    · go_wp2
      go_ret
      exact ⟨ret_bool (by simp [eqMv] at hq; simp [eqAc, hq]), HB.out⟩
    · cases h2 : c != c'
      · go_wp2
        go_ret
        exact ⟨ret_bool (by simp [eqMv] at hq; simp at h2; simp [eqAc, hq, h2, H1.out]), HB.out⟩
      · go_wp2
        go_ret
        exact ⟨ret_bool (by simp at h2; simp [eqAc, h2]), HB.out⟩
  · go_enter Tryz.func95, Tryz.ntmps95
    go_wp2_with fail
    simp only [← hw0]
    clear hw0
    go_wp2
    go_ret
    exact ⟨ret_bool (by simp at h1; simp [eqAc, h1]), HB.out⟩
end Go.Proofs.YtjpndimhegfbnaaGreatDoor
