/-
  Texts of walks and plain lemmas for this seat; no condition.
-/
import Derived.Test.YtkdgpbnngkljkaaDoorDRead
import Derived.Test.YtkdgpbnngkljkaaDoorRMove2
import Derived.Test.YtkdgpbnngkljkaaDoorMvMore
import Derived.Test.YtkdgpbnngkljkaaDoorMText2
import Derived.Laws.StructEq
namespace Go.Proofs.YtkdgpbnngkljkaaDoor
open Go.RowKit

set_option maxRecDepth 100000 in
set_option maxHeartbeats 1600000 in
theorem law_FnReadMove (v : Value) (cs : List Int) (w : World) (hx : SlB 0 w.heap.size w v cs) (hE : Env w) :
    Calls Tryd.prog 5 #[v] w fun e w' => e = .returned (.bool true) ∧ Below w.heap.size w w' := by
  have HX := Lib.hid hx
  obtain ⟨⟨a, cap, rfl, hcap, hcm, _⟩, _⟩ := hx
  unfold maxLen at hcm
  by_cases hm : cs.length ≤ 1048576
  · have HE := Lib.hid hE
    clear hE
    go_enter Tryd.func5, Tryd.ntmps5
    go_wp2_with fail
    refine (DrawReadMove_any _ cs _ HX.out).mono ?_
    rintro e w1 ⟨s, rfl, hsz, hb⟩
    obtain ⟨l, rfl⟩ : ∃ l : List UInt8, s = ⟨l.toArray⟩ := ⟨s.data.toList, by cases s; simp⟩
    have hl : l.length ≤ 20 := by have h : l.toArray.size ≤ 20 := hsz; simpa using h
    clear hsz
    have HB := Lib.hid hb
    clear hb
    go_wp2_with fail
    refine (impl_ReadMove l _ rfl _ (HE.out.below HB.out) (by omega)).mono ?_
    rintro e w2 ⟨rfl, hb⟩
    replace HB := Lib.hid (HB.out.trans (hb.mono HB.out.size))
    clear hb
    cases hr : readMv l with
    | none =>
      have HR := Lib.hid hr
      clear hr
      rw [show rdMv none = .tuple #[.agg #[.int .i64 0, .bool false, .int .i64 0], .bool false] from rfl]
      go_wp2_with fail
      obtain ⟨w3, hw3⟩ : ∃ w3, w3 = w2.alloc (.cells #[.int .i64 0, .bool false, .int .i64 0] 23) := ⟨_, rfl⟩
      rw [← hw3]
      have hb : Below w2.heap.size w2 w3 := by rw [hw3]; exact (Below.refl _ _).alloc (Nat.le_refl _) _
      have K : Hid (Blk w2.heap.size (.cells #[.int .i64 0, .bool false, .int .i64 0] 23) w3) := by rw [hw3]; exact Lib.hid (Blk.new _ _)
      replace HB := Lib.hid (HB.out.trans (hb.mono HB.out.size))
      clear hb hw3
      refine (spec_ReadMove l _ rfl _ (by omega)).mono ?_
      rintro e w4 ⟨rfl, hb⟩
      rw [HR.out, show rdMv none = .tuple #[.agg #[.int .i64 0, .bool false, .int .i64 0], .bool false] from rfl]
      replace K := Lib.hid (K.out.below hb K.out.lt)
      replace HB := Lib.hid (HB.out.trans (hb.mono HB.out.size))
      clear hb
      have hb : Below w4.heap.size w4 (w4.alloc (.cells #[.int .i64 0, .bool false, .int .i64 0] 23)) := (Below.refl _ _).alloc (Nat.le_refl _) _
      replace K := Lib.hid (K.out.below hb K.out.lt)
      replace HB := Lib.hid (HB.out.trans (hb.mono HB.out.size))
      have c0 := K.out.cell 0
      have c1 := K.out.cell 1
      have c2 := K.out.cell 2
      clear hb
      go_wp2_with fail
      refine (alive_any _).mono ?_
      rintro e w5 ⟨rfl, rfl⟩
      go_wp2
      go_ret
      exact ⟨rfl, HB.out⟩
    | some m =>
      have HR := Lib.hid hr
      have HT := Lib.hid ((readMv_iff l m).1 hr)
      have HM := Lib.hid (readMv_more l)
      clear hr
      rw [show rdMv (some m) = .tuple #[.agg #[.int .i64 m.which, .bool m.back, .int .i64 m.at_], .bool true] from rfl]
      go_wp2_with fail
      obtain ⟨w3, hw3⟩ : ∃ w3, w3 = w2.alloc (.cells #[.int .i64 m.which, .bool m.back, .int .i64 m.at_] 23) := ⟨_, rfl⟩
      rw [← hw3]
      have hb : Below w2.heap.size w2 w3 := by rw [hw3]; exact (Below.refl _ _).alloc (Nat.le_refl _) _
      have K : Hid (Blk w2.heap.size (.cells #[.int .i64 m.which, .bool m.back, .int .i64 m.at_] 23) w3) := by rw [hw3]; exact Lib.hid (Blk.new _ _)
      replace HB := Lib.hid (HB.out.trans (hb.mono HB.out.size))
      clear hb hw3
      refine (spec_ReadMove l _ rfl _ (by omega)).mono ?_
      rintro e w4 ⟨rfl, hb⟩
      rw [HR.out, show rdMv (some m) = .tuple #[.agg #[.int .i64 m.which, .bool m.back, .int .i64 m.at_], .bool true] from rfl]
      replace K := Lib.hid (K.out.below hb K.out.lt)
      replace HB := Lib.hid (HB.out.trans (hb.mono HB.out.size))
      clear hb
      obtain ⟨w5, hw5⟩ : ∃ w5, w5 = w4.alloc (.cells #[.int .i64 m.which, .bool m.back, .int .i64 m.at_] 23) := ⟨_, rfl⟩
      have hb : Below w4.heap.size w4 w5 := by rw [hw5]; exact (Below.refl _ _).alloc (Nat.le_refl _) _
      have K2 : Hid (Blk w4.heap.size (.cells #[.int .i64 m.which, .bool m.back, .int .i64 m.at_] 23) w5) := by rw [hw5]; exact Lib.hid (Blk.new _ _)
      replace K := Lib.hid (K.out.below hb K.out.lt)
      replace HB := Lib.hid (HB.out.trans (hb.mono HB.out.size))
      clear hb
      have c0 := K.out.cell 0
      have c1 := K.out.cell 1
      have c2 := K.out.cell 2
      have d0 := K2.out.cell 0
      have d1 := K2.out.cell 1
      have d2 := K2.out.cell 2
      rw [hw5] at c0 c1 c2 d0 d1 d2
      go_wp2_with fail
      simp only [← hw5]
      clear c0 c1 c2 d0 d1 d2 K2 hw5
      refine (impl_ReadMove (l ++ [32]) _ (by show ByteArray.mk l.toArray ++ ByteArray.mk [32].toArray = _; rw [ByteArray.mk_append_mk]) _ (HE.out.below HB.out) (by simp; omega)).mono ?_
      rintro e w6 ⟨rfl, hb⟩
      replace K := Lib.hid (K.out.below hb K.out.lt)
      replace HB := Lib.hid (HB.out.trans (hb.mono HB.out.size))
      clear hb
      rw [HM.out, show rdMv none = .tuple #[.agg #[.int .i64 0, .bool false, .int .i64 0], .bool false] from rfl]
      obtain ⟨w7, hw7⟩ : ∃ w7, w7 = w6.alloc (.cells #[.int .i64 0, .bool false, .int .i64 0] 23) := ⟨_, rfl⟩
      have hb : Below w6.heap.size w6 w7 := by rw [hw7]; exact (Below.refl _ _).alloc (Nat.le_refl _) _
      replace K := Lib.hid (K.out.below hb K.out.lt)
      replace HB := Lib.hid (HB.out.trans (hb.mono HB.out.size))
      clear hb
      have c0 := K.out.cell 0
      have c1 := K.out.cell 1
      have c2 := K.out.cell 2
      rw [hw7] at c0 c1 c2
      go_wp2_with fail
      simp only [← hw7]
      clear hw7
      refine (impl_MoveText m _).mono ?_
      rintro e w8 ⟨rfl, hb⟩
      replace HB := Lib.hid (HB.out.trans (hb.mono HB.out.size))
      rw [HT.out.2]
      clear hb c0 c1 c2
      go_wp2
      go_ret
      exact ⟨rfl, HB.out⟩
  · clear hE
    go_enter Tryd.func5, Tryd.ntmps5
    go_wp2
    go_ret
    exact ⟨rfl, Below.refl _ _⟩
end Go.Proofs.YtkdgpbnngkljkaaDoor
