/-
  Texts of walks and plain lemmas for this seat; no condition.
-/
import Derived.Test.YtagjpecibpejmaaGreatDoorDDraws
import Derived.Test.YtagjpecibpejmaaGreatDoorRAct1
import Derived.Test.YtagjpecibpejmaaGreatDoorRAct2
import Derived.Test.YtagjpecibpejmaaGreatDoorAct3
import Derived.Test.YtagjpecibpejmaaGreatDoorActLaw
import Derived.Test.YtagjpecibpejmaaGreatDoorGN
import Derived.Laws.StructEq
namespace Go.Proofs.YtagjpecibpejmaaGreatDoor
open Go.RowKit

set_option maxRecDepth 100000 in
set_option maxHeartbeats 1600000 in
theorem law_FnReadAct (v : Value) (cs : List Int) (w : World) (hx : SlB 0 w.heap.size w v cs) (hE : Env w) :
    Calls Tryz.prog 8 #[v] w fun e w' => e = .returned (.bool true) ∧ Below w.heap.size w w' := by
  have HX := Lib.hid hx
  obtain ⟨⟨a, cap, rfl, hcap, hcm, _⟩, _⟩ := hx
  unfold maxLen at hcm
  by_cases hm : cs.length ≤ 1048576
  · have HE := Lib.hid hE
    clear hE
    go_enter Tryz.func8, Tryz.ntmps8
    go_wp2_with fail
    refine (DrawReadAct_any _ cs _ HX.out).mono ?_
    rintro e w1 ⟨s, rfl, hsz, hb⟩
    obtain ⟨l, rfl⟩ : ∃ l : List UInt8, s = ⟨l.toArray⟩ := ⟨s.data.toList, by cases s; simp⟩
    have hl : l.length ≤ 20 := by have h : l.toArray.size ≤ 20 := hsz; simpa using h
    clear hsz
    have HB := Lib.hid hb
    clear hb
    go_wp2_with fail
    refine (impl_ReadAct l _ rfl _ (HE.out.below HB.out) (by omega)).mono ?_
    rintro e w2 ⟨rfl, hb⟩
    replace HB := Lib.hid (HB.out.trans (hb.mono HB.out.size))
    clear hb
    cases hr : readAc l with
    | none =>
      have HR := Lib.hid hr
      clear hr
      rw [show rdAc none = .tuple #[.agg #[.int .i64 0, .int .i64 0, .bool false, .int .i64 0, .int .i64 0], .bool false] from rfl]
      go_wp2_with fail
      obtain ⟨w3, hw3⟩ : ∃ w3, w3 = w2.alloc (.cells #[.int .i64 0, .int .i64 0, .bool false, .int .i64 0, .int .i64 0] 51) := ⟨_, rfl⟩
      rw [← hw3]
      have hb : Below w2.heap.size w2 w3 := by rw [hw3]; exact (Below.refl _ _).alloc (Nat.le_refl _) _
      have K : Hid (Blk w2.heap.size (.cells #[.int .i64 0, .int .i64 0, .bool false, .int .i64 0, .int .i64 0] 51) w3) := by rw [hw3]; exact Lib.hid (Blk.new _ _)
      replace HB := Lib.hid (HB.out.trans (hb.mono HB.out.size))
      clear hb hw3
      refine (spec_ReadAct l _ rfl _ (by omega)).mono ?_
      rintro e w4 ⟨rfl, hb⟩
      rw [HR.out, show rdAc none = .tuple #[.agg #[.int .i64 0, .int .i64 0, .bool false, .int .i64 0, .int .i64 0], .bool false] from rfl]
      replace K := Lib.hid (K.out.below hb K.out.lt)
      replace HB := Lib.hid (HB.out.trans (hb.mono HB.out.size))
      clear hb
      have hb : Below w4.heap.size w4 (w4.alloc (.cells #[.int .i64 0, .int .i64 0, .bool false, .int .i64 0, .int .i64 0] 51)) := (Below.refl _ _).alloc (Nat.le_refl _) _
      replace K := Lib.hid (K.out.below hb K.out.lt)
      replace HB := Lib.hid (HB.out.trans (hb.mono HB.out.size))
      have c0 := K.out.cell 0
      have c1 := K.out.cell 1
      have c2 := K.out.cell 2
      have c3 := K.out.cell 3
      have c4 := K.out.cell 4
      clear hb
      go_wp2_with fail
      refine (alive_any _).mono ?_
      rintro e w5 ⟨rfl, rfl⟩
      go_wp2
      go_ret
      exact ⟨rfl, HB.out⟩
    | some m =>
      have HR := Lib.hid hr
      have HT := Lib.hid (act_canon hr)
      have HM := Lib.hid (readAc_more l)
      clear hr
      rw [show rdAc (some m) = .tuple #[.agg #[.int .i64 m.kind, .int .i64 m.step.which, .bool m.step.back, .int .i64 m.step.at_, .int .i64 m.count], .bool true] from rfl]
      go_wp2_with fail
      obtain ⟨w3, hw3⟩ : ∃ w3, w3 = w2.alloc (.cells #[.int .i64 m.kind, .int .i64 m.step.which, .bool m.step.back, .int .i64 m.step.at_, .int .i64 m.count] 51) := ⟨_, rfl⟩
      rw [← hw3]
      have hb : Below w2.heap.size w2 w3 := by rw [hw3]; exact (Below.refl _ _).alloc (Nat.le_refl _) _
      have K : Hid (Blk w2.heap.size (.cells #[.int .i64 m.kind, .int .i64 m.step.which, .bool m.step.back, .int .i64 m.step.at_, .int .i64 m.count] 51) w3) := by rw [hw3]; exact Lib.hid (Blk.new _ _)
      replace HB := Lib.hid (HB.out.trans (hb.mono HB.out.size))
      clear hb hw3
      refine (spec_ReadAct l _ rfl _ (by omega)).mono ?_
      rintro e w4 ⟨rfl, hb⟩
      rw [HR.out, show rdAc (some m) = .tuple #[.agg #[.int .i64 m.kind, .int .i64 m.step.which, .bool m.step.back, .int .i64 m.step.at_, .int .i64 m.count], .bool true] from rfl]
      replace K := Lib.hid (K.out.below hb K.out.lt)
      replace HB := Lib.hid (HB.out.trans (hb.mono HB.out.size))
      clear hb
      obtain ⟨w5, hw5⟩ : ∃ w5, w5 = w4.alloc (.cells #[.int .i64 m.kind, .int .i64 m.step.which, .bool m.step.back, .int .i64 m.step.at_, .int .i64 m.count] 51) := ⟨_, rfl⟩
      have hb : Below w4.heap.size w4 w5 := by rw [hw5]; exact (Below.refl _ _).alloc (Nat.le_refl _) _
      have K2 : Hid (Blk w4.heap.size (.cells #[.int .i64 m.kind, .int .i64 m.step.which, .bool m.step.back, .int .i64 m.step.at_, .int .i64 m.count] 51) w5) := by rw [hw5]; exact Lib.hid (Blk.new _ _)
      replace K := Lib.hid (K.out.below hb K.out.lt)
      replace HB := Lib.hid (HB.out.trans (hb.mono HB.out.size))
      clear hb
      have c0 := K.out.cell 0
      have c1 := K.out.cell 1
      have c2 := K.out.cell 2
      have c3 := K.out.cell 3
      have c4 := K.out.cell 4
      have d0 := K2.out.cell 0
      have d1 := K2.out.cell 1
      have d2 := K2.out.cell 2
      have d3 := K2.out.cell 3
      have d4 := K2.out.cell 4
      rw [hw5] at c0 c1 c2 c3 c4 d0 d1 d2 d3 d4
      go_wp2_with fail
      simp only [← hw5]
      clear c0 c1 c2 c3 c4 d0 d1 d2 d3 d4 K2 hw5
      refine (impl_ReadAct (l ++ [32]) _ (by show ByteArray.mk l.toArray ++ ByteArray.mk [32].toArray = _; rw [ByteArray.mk_append_mk]) _ (HE.out.below HB.out) (by simp; omega)).mono ?_
      rintro e w6 ⟨rfl, hb⟩
      replace K := Lib.hid (K.out.below hb K.out.lt)
      replace HB := Lib.hid (HB.out.trans (hb.mono HB.out.size))
      clear hb
      rw [HM.out, show rdAc none = .tuple #[.agg #[.int .i64 0, .int .i64 0, .bool false, .int .i64 0, .int .i64 0], .bool false] from rfl]
      obtain ⟨w7, hw7⟩ : ∃ w7, w7 = w6.alloc (.cells #[.int .i64 0, .int .i64 0, .bool false, .int .i64 0, .int .i64 0] 51) := ⟨_, rfl⟩
      have hb : Below w6.heap.size w6 w7 := by rw [hw7]; exact (Below.refl _ _).alloc (Nat.le_refl _) _
      replace K := Lib.hid (K.out.below hb K.out.lt)
      replace HB := Lib.hid (HB.out.trans (hb.mono HB.out.size))
      clear hb
      have c0 := K.out.cell 0
      have c1 := K.out.cell 1
      have c2 := K.out.cell 2
      have c3 := K.out.cell 3
      have c4 := K.out.cell 4
      rw [hw7] at c0 c1 c2 c3 c4
      go_wp2_with fail
      simp only [← hw7]
      clear hw7
      refine (impl_ActText m _).mono ?_
      rintro e w8 ⟨rfl, hb⟩
      replace HB := Lib.hid (HB.out.trans (hb.mono HB.out.size))
      rw [HT.out]
      clear hb c0 c1 c2 c3 c4
      go_wp2
      go_ret
      exact ⟨rfl, HB.out⟩
  · clear hE
    go_enter Tryz.func8, Tryz.ntmps8
    go_wp2
    go_ret
    exact ⟨rfl, Below.refl _ _⟩
end Go.Proofs.YtagjpecibpejmaaGreatDoor
