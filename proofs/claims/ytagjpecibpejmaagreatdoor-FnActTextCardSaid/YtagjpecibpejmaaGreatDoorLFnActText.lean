/-
  Texts of walks and plain lemmas for this seat; no condition.
-/
import Derived.Test.YtagjpecibpejmaaGreatDoorDDraws
import Derived.Test.YtagjpecibpejmaaGreatDoorRAct1
import Derived.Test.YtagjpecibpejmaaGreatDoorAct3
import Derived.Test.YtagjpecibpejmaaGreatDoorActLaw
import Derived.Test.YtagjpecibpejmaaGreatDoorGN
import Derived.Laws.StructEq
namespace Go.Proofs.YtagjpecibpejmaaGreatDoor
open Go.RowKit

set_option maxRecDepth 100000 in
set_option maxHeartbeats 1600000 in
theorem law_FnActText (v : Value) (cs : List Int) (w : World) (hx : SlB 0 w.heap.size w v cs) (hE : Env w) :
    Calls Tryz.prog 7 #[v] w fun e w' => e = .returned (.bool true) ∧ Below w.heap.size w w' := by
  have HX := Lib.hid hx
  obtain ⟨⟨a, cap, rfl, hcap, hcm, _⟩, _⟩ := hx
  unfold maxLen at hcm
  by_cases hm : cs.length ≤ 1048576
  · have HE := Lib.hid hE
    clear hE
    go_enter Tryz.func7, Tryz.ntmps7
    go_wp2_with fail
    refine (DrawActText_any _ cs _ HX.out).mono ?_
    rintro e w1 ⟨m, rfl, hb⟩
    have HB := Lib.hid hb
    clear hb
    go_wp2_with fail
    obtain ⟨w2, hw2⟩ : ∃ w2, w2 = w1.alloc (.cells #[.int .i64 m.kind, .int .i64 m.step.which, .bool m.step.back, .int .i64 m.step.at_, .int .i64 m.count] 51) := ⟨_, rfl⟩
    rw [← hw2]
    have hb : Below w1.heap.size w1 w2 := by rw [hw2]; exact (Below.refl _ _).alloc (Nat.le_refl _) _
    have K : Hid (Blk w1.heap.size (.cells #[.int .i64 m.kind, .int .i64 m.step.which, .bool m.step.back, .int .i64 m.step.at_, .int .i64 m.count] 51) w2) := by rw [hw2]; exact Lib.hid (Blk.new _ _)
    replace HB := Lib.hid (HB.out.trans (hb.mono HB.out.size))
    clear hb hw2
    refine (impl_ActText m _).mono ?_
    rintro e w3 ⟨rfl, hb⟩
    replace K := Lib.hid (K.out.below hb K.out.lt)
    replace HB := Lib.hid (HB.out.trans (hb.mono HB.out.size))
    clear hb
    have c0 := K.out.cell 0
    have c1 := K.out.cell 1
    have c2 := K.out.cell 2
    have c3 := K.out.cell 3
    have c4 := K.out.cell 4
    go_wp2_with fail
    refine (spec_ActText m _).mono ?_
    rintro e w4 ⟨rfl, hb⟩
    clear c0 c1 c2 c3 c4
    replace K := Lib.hid (K.out.below hb K.out.lt)
    replace HB := Lib.hid (HB.out.trans (hb.mono HB.out.size))
    clear hb
    obtain ⟨t, ht⟩ : ∃ t, t = actText m := ⟨_, rfl⟩
    have hl := actText_len m
    rw [← ht] at hl ⊢
    have HT := Lib.hid ht
    clear ht
    cases t with
    | nil =>
      go_wp2_with fail
      refine (alive_any _).mono ?_
      rintro e w5 ⟨rfl, rfl⟩
      go_wp2
      go_ret
      exact ⟨rfl, HB.out⟩
    | cons c r =>
      have HR := Lib.hid (show readAc (c :: r) = some m by rw [HT.out]; exact act_read (by rw [← HT.out]; simp))
      go_wp2_with fail
      refine (impl_ReadAct (c :: r) _ rfl _ (HE.out.below HB.out) (by omega)).mono ?_
      rintro e w5 ⟨rfl, hb⟩
      replace K := Lib.hid (K.out.below hb K.out.lt)
      replace HB := Lib.hid (HB.out.trans (hb.mono HB.out.size))
      clear hb
      rw [HR.out, show rdAc (some m) = .tuple #[.agg #[.int .i64 m.kind, .int .i64 m.step.which, .bool m.step.back, .int .i64 m.step.at_, .int .i64 m.count], .bool true] from rfl]
      have hb : Below w5.heap.size w5 (w5.alloc (.cells #[.int .i64 m.kind, .int .i64 m.step.which, .bool m.step.back, .int .i64 m.step.at_, .int .i64 m.count] 51)) := (Below.refl _ _).alloc (Nat.le_refl _) _
      replace K := Lib.hid (K.out.below hb K.out.lt)
      replace HB := Lib.hid (HB.out.trans (hb.mono HB.out.size))
      have c0 := K.out.cell 0
      have c1 := K.out.cell 1
      have c2 := K.out.cell 2
      have c3 := K.out.cell 3
      have c4 := K.out.cell 4
      clear hb
      go_wp2
      go_ret
      exact ⟨rfl, HB.out⟩
  · clear hE
    go_enter Tryz.func7, Tryz.ntmps7
    go_wp2
    go_ret
    exact ⟨rfl, Below.refl _ _⟩
end Go.Proofs.YtagjpecibpejmaaGreatDoor
