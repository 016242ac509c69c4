/-
  Texts of walks and plain lemmas for this seat; no condition.
-/
import Derived.Test.YtkdgpbnngkljkaaDoorRd
import Derived.Test.YtkdgpbnngkljkaaDoorRMove
import Derived.Test.YtkdgpbnngkljkaaDoorAlive
import Derived.Deep.RegionWith
namespace Go.Proofs.YtkdgpbnngkljkaaDoor
open Go.RowKit

/-- A move comes back. -/
def RetM (P : Mv → World → Prop) (e : Ending) (w' : World) : Prop := ∃ m : Mv, e = .returned (.agg #[.int .i64 m.which, .bool m.back, .int .i64 m.at_]) ∧ P m w'

set_option maxHeartbeats 1600000 in
theorem DrawMoveText_any (v : Value) (xs : List Int) (w : World) (h : SlB 0 w.heap.size w v xs) :
    Calls Tryd.prog 11 #[v] w (RetM fun _ w' => Below w.heap.size w w') := by
  obtain ⟨w0, hw0⟩ : ∃ w0, w0 = w.alloc (.cells #[.int .i64 0, .bool false, .int .i64 0] 23) := ⟨_, rfl⟩
  have HB : Hid (Below w.heap.size w w0) := by rw [hw0]; exact Lib.hid ((Below.refl _ _).alloc (Nat.le_refl _) _)
  have K : Hid (Blk w.heap.size (.cells #[.int .i64 0, .bool false, .int .i64 0] 23) w0) := by rw [hw0]; exact Lib.hid (Blk.new w _)
  have hsz : w0.heap.size = w.heap.size + 1 := by rw [hw0]; simp
  have HX : Hid (SlB 0 w0.heap.size w0 v xs) := Lib.hid ⟨(h.1.below HB.out (Nat.le_refl _)).wide (Nat.le_refl _) (by omega), h.2⟩
  clear h
  go_enter Tryd.func11, Tryd.ntmps11
  go_wp2_with fail
  simp only [← hw0]
  clear hw0
  refine (l20Open_any _ xs _ HX.out).mono ?_
  rintro e w1 ⟨_, rfl, g, rfl, hg, hb, hr⟩
  replace HB := Lib.hid (HB.out.trans (hb.mono (by omega)))
  replace K := Lib.hid (K.out.below hb K.out.lt)
  clear hb HX
  have HR := Lib.hid hr
  clear hr
  go_wp2_with fail
  refine (pick_any g 0 _ _ HR.out (by omega)).mono ?_
  rintro e w2 ⟨x1, rfl, ⟨i1, i1'⟩, ho, hr⟩
  replace HB := Lib.hid (Below.outside HB.out ho (by omega) HB.out.size)
  replace K := Lib.hid (K.out.outside ho (by omega))
  replace HR := Lib.hid hr
  clear ho hr
  have j1 : x1 ≤ 22 := by omega
  clear i1'
  go_wp2_with fail
  refine (pick_any g 1 _ _ HR.out (by omega)).mono ?_
  rintro e w3 ⟨x2, rfl, ⟨i2, i2'⟩, ho, hr⟩
  replace HB := Lib.hid (Below.outside HB.out ho (by omega) HB.out.size)
  replace K := Lib.hid (K.out.outside ho (by omega))
  replace HR := Lib.hid hr
  clear ho hr
  have j2 : x2 ≤ 8 := by omega
  clear i2'
  obtain ⟨y, rfl⟩ : ∃ y : Nat, x2 = y := ⟨x2.toNat, by omega⟩
  clear i2
  go_wp2_with fail
  refine (pick_any g 2 _ _ HR.out (by omega)).mono ?_
  rintro e w4 ⟨x3, rfl, ⟨i3, i3'⟩, ho, hr⟩
  replace HB := Lib.hid (Below.outside HB.out ho (by omega) HB.out.size)
  replace K := Lib.hid (K.out.outside ho (by omega))
  replace HR := Lib.hid hr
  clear ho hr i3'
  go_wp2_with fail
  refine (pick_any g 3 _ _ HR.out (by omega)).mono ?_
  rintro e w5 ⟨x4, rfl, ⟨i4, i4'⟩, ho, hr⟩
  replace HB := Lib.hid (Below.outside HB.out ho (by omega) HB.out.size)
  replace K := Lib.hid (K.out.outside ho (by omega))
  clear ho hr i4'
  have c0 := K.out.cell 0
  have c1 := K.out.cell 1
  have c2 := K.out.cell 2
  have f0 := K.out.free 0
  have f1 := K.out.free 1
  have f2 := K.out.free 2
  obtain ⟨wz, hwz⟩ : ∃ wz, wz = (((w5.setCell ⟨w.heap.size, 0, none⟩ (.int .i64 (x1 - (y : Int) / 8))).setCell ⟨w.heap.size, 1, none⟩ (.bool (x3 == 0))).setCell ⟨w.heap.size, 2, none⟩ (.int .i64 x4)) := ⟨_, rfl⟩
  have KZ := K.out.set3 (.int .i64 (x1 - (y : Int) / 8)) (.bool (x3 == 0)) (.int .i64 x4)
  have HZ := Lib.hid (Below.set3 HB.out (Nat.le_refl _) (.int .i64 (x1 - (y : Int) / 8)) (.bool (x3 == 0)) (.int .i64 x4))
  rw [← hwz] at KZ HZ
  have q0 := KZ.cell 0
  have q1 := KZ.cell 1
  have q2 := KZ.cell 2
  clear KZ
  go_wp2
  simp only [← hwz]
  clear hwz
  refine bodyPost_ret (v := .agg #[.int .i64 (x1 - (y : Int) / 8), .bool (x3 == 0), .int .i64 x4]) (by simp [results, Tryd.results11, go_sem, q0, q1, q2]) rfl ⟨⟨_, _, _⟩, rfl, HZ.out⟩
end Go.Proofs.YtkdgpbnngkljkaaDoor
