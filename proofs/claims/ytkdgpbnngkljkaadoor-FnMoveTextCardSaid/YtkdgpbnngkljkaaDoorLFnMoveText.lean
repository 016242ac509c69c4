/-
  Texts of walks and plain lemmas for this seat; no condition.
-/
import Derived.Test.YtkdgpbnngkljkaaDoorDMove
import Derived.Test.YtkdgpbnngkljkaaDoorRMove
import Derived.Test.YtkdgpbnngkljkaaDoorMText2
import Derived.Laws.StructEq
namespace Go.Proofs.YtkdgpbnngkljkaaDoor
open Go.RowKit

set_option maxRecDepth 100000 in
set_option maxHeartbeats 1600000 in
theorem law_FnMoveText (v : Value) (cs : List Int) (w : World) (hx : SlB 0 w.heap.size w v cs) (hE : Env w) :
    Calls Tryd.prog 4 #[v] w fun e w' => e = .returned (.bool true) ∧ Below w.heap.size w w' := by
  have HX := Lib.hid hx
  obtain ⟨⟨a, cap, rfl, hcap, hcm, _⟩, _⟩ := hx
  unfold maxLen at hcm
  by_cases hm : cs.length ≤ 1048576
  · have HE := Lib.hid hE
    clear hE
    go_enter Tryd.func4, Tryd.ntmps4
    go_wp2_with fail
    refine (DrawMoveText_any _ cs _ HX.out).mono ?_
    rintro e w1 ⟨m, rfl, hb⟩
    have HB := Lib.hid hb
    clear hb
    go_wp2_with fail
    obtain ⟨w2, hw2⟩ : ∃ w2, w2 = w1.alloc (.cells #[.int .i64 m.which, .bool m.back, .int .i64 m.at_] 23) := ⟨_, rfl⟩
    rw [← hw2]
    have hb : Below w1.heap.size w1 w2 := by rw [hw2]; exact (Below.refl _ _).alloc (Nat.le_refl _) _
    have K : Hid (Blk w1.heap.size (.cells #[.int .i64 m.which, .bool m.back, .int .i64 m.at_] 23) w2) := by rw [hw2]; exact Lib.hid (Blk.new _ _)
    replace HB := Lib.hid (HB.out.trans (hb.mono HB.out.size))
    clear hb hw2
    refine (impl_MoveText m _).mono ?_
    rintro e w3 ⟨rfl, hb⟩
    replace K := Lib.hid (K.out.below hb K.out.lt)
    replace HB := Lib.hid (HB.out.trans (hb.mono HB.out.size))
    clear hb
    have c0 := K.out.cell 0
    have c1 := K.out.cell 1
    have c2 := K.out.cell 2
    go_wp2_with fail
    refine (spec_MoveText m _).mono ?_
    rintro e w4 ⟨rfl, hb⟩
    clear c0 c1 c2
    replace K := Lib.hid (K.out.below hb K.out.lt)
    replace HB := Lib.hid (HB.out.trans (hb.mono HB.out.size))
    clear hb
    obtain ⟨t, ht⟩ : ∃ t, t = mvText m := ⟨_, rfl⟩
    have hl := mvText_len m
    rw [← ht] at hl ⊢
    have HT := Lib.hid ht
    clear ht
    cases t with
    | nil =>
      go_wp2_with fail
      refine (alive_any _).mono ?_
      rintro e w5 ⟨rfl, rfl⟩
      go_wp2
      go_ret
      exact ⟨rfl, HB.out⟩
    | cons c r =>
      have HR := Lib.hid (rd_yes (c := c) (r := r) (m := m) HT.out.symm)
      go_wp2_with fail
      refine (impl_ReadMove (c :: r) _ rfl _ (HE.out.below HB.out) (by omega)).mono ?_
      rintro e w5 ⟨rfl, hb⟩
      replace K := Lib.hid (K.out.below hb K.out.lt)
      replace HB := Lib.hid (HB.out.trans (hb.mono HB.out.size))
      clear hb
      rw [HR.out, show rdMv (some m) = .tuple #[.agg #[.int .i64 m.which, .bool m.back, .int .i64 m.at_], .bool true] from rfl]
      have hb : Below w5.heap.size w5 (w5.alloc (.cells #[.int .i64 m.which, .bool m.back, .int .i64 m.at_] 23)) := (Below.refl _ _).alloc (Nat.le_refl _) _
      replace K := Lib.hid (K.out.below hb K.out.lt)
      replace HB := Lib.hid (HB.out.trans (hb.mono HB.out.size))
      have c0 := K.out.cell 0
      have c1 := K.out.cell 1
      have c2 := K.out.cell 2
      clear hb
      go_wp2
      go_ret
      exact ⟨rfl, HB.out⟩
  · clear hE
    go_enter Tryd.func4, Tryd.ntmps4
    go_wp2
    go_ret
    exact ⟨rfl, Below.refl _ _⟩
end Go.Proofs.YtkdgpbnngkljkaaDoor
