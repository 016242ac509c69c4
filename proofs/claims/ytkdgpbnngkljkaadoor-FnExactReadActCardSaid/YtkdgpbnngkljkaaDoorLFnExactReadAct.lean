/-
  Texts of walks and plain lemmas for this seat; no condition.
-/
import Derived.Test.YtkdgpbnngkljkaaDoorRAct1
import Derived.Test.YtkdgpbnngkljkaaDoorRAct2
import Derived.Test.YtkdgpbnngkljkaaDoorActEq
namespace Go.Proofs.YtkdgpbnngkljkaaDoor
open Go.RowKit

theorem rdAc_eq (o : Option Ac) : ∃ m ok, m = o.getD zAc ∧ ok = o.isSome ∧ rdAc o = .tuple #[.agg #[.int .i64 m.kind, .int .i64 m.step.which, .bool m.step.back, .int .i64 m.step.at_, .int .i64 m.count], .bool ok] := ⟨_, _, rfl, rfl, rfl⟩

set_option maxRecDepth 100000 in
set_option maxHeartbeats 1600000 in
theorem law_FnExactReadAct (s : ByteArray) (w : World) (hz : s.size ≤ maxLen) (hE : Env w) :
    Calls Tryd.prog 6 #[.string s] w fun e w' => e = .returned (.bool true) ∧ Below w.heap.size w w' := by
  obtain ⟨l, rfl⟩ : ∃ l : List UInt8, s = ⟨l.toArray⟩ := ⟨s.data.toList, by simp⟩
  by_cases hl : l.length ≤ 1048576
  · obtain ⟨m, ok, hm, hok, heq⟩ := rdAc_eq (readAc l)
    have HQ := Lib.hid heq
    clear hz hm hok heq
    go_enter Tryd.func6, Tryd.ntmps6
    go_wp2_with fail
    refine (spec_ReadAct l _ rfl _ (by omega)).mono ?_
    rintro e w1 ⟨rfl, hb⟩
    rw [HQ.out]
    have HB := Lib.hid hb
    clear hb
    go_wp2_with fail
    obtain ⟨w2, hw2⟩ : ∃ w2, w2 = w1.alloc (.cells #[.int .i64 m.kind, .int .i64 m.step.which, .bool m.step.back, .int .i64 m.step.at_, .int .i64 m.count] 35) := ⟨_, rfl⟩
    rw [← hw2]
    have hb : Below w1.heap.size w1 w2 := by rw [hw2]; exact (Below.refl _ _).alloc (Nat.le_refl _) _
    have K1 : Hid (Blk w1.heap.size (.cells #[.int .i64 m.kind, .int .i64 m.step.which, .bool m.step.back, .int .i64 m.step.at_, .int .i64 m.count] 35) w2) := by rw [hw2]; exact Lib.hid (Blk.new _ _)
    replace HB := Lib.hid (HB.out.trans (hb.mono HB.out.size))
    clear hb hw2
    refine (impl_ReadAct l _ rfl _ (hE.below HB.out) (by omega)).mono ?_
    rintro e w3 ⟨rfl, hb⟩
    rw [HQ.out]
    replace K1 := Lib.hid (K1.out.below hb K1.out.lt)
    replace HB := Lib.hid (HB.out.trans (hb.mono HB.out.size))
    clear hb
    have a0 := (K1.out.below ((Below.refl w3.heap.size w3).alloc (Nat.le_refl _) (.cells #[.int .i64 m.kind, .int .i64 m.step.which, .bool m.step.back, .int .i64 m.step.at_, .int .i64 m.count] 35)) K1.out.lt).cell 0
    have a1 := (K1.out.below ((Below.refl w3.heap.size w3).alloc (Nat.le_refl _) (.cells #[.int .i64 m.kind, .int .i64 m.step.which, .bool m.step.back, .int .i64 m.step.at_, .int .i64 m.count] 35)) K1.out.lt).cell 1
    have a2 := (K1.out.below ((Below.refl w3.heap.size w3).alloc (Nat.le_refl _) (.cells #[.int .i64 m.kind, .int .i64 m.step.which, .bool m.step.back, .int .i64 m.step.at_, .int .i64 m.count] 35)) K1.out.lt).cell 2
    have a3 := (K1.out.below ((Below.refl w3.heap.size w3).alloc (Nat.le_refl _) (.cells #[.int .i64 m.kind, .int .i64 m.step.which, .bool m.step.back, .int .i64 m.step.at_, .int .i64 m.count] 35)) K1.out.lt).cell 3
    have a4 := (K1.out.below ((Below.refl w3.heap.size w3).alloc (Nat.le_refl _) (.cells #[.int .i64 m.kind, .int .i64 m.step.which, .bool m.step.back, .int .i64 m.step.at_, .int .i64 m.count] 35)) K1.out.lt).cell 4
    have hlt := K1.out.lt
    go_wp2_with fail
    refine (eqAct_any m m _).mono ?_
    rintro e w4 ⟨rfl, hb⟩
    replace hb := Below.from_alloc hb
    replace HB := Lib.hid (HB.out.trans (hb.mono HB.out.size))
    clear hb a0 a1 a2 a3 a4
    rw [show eqAc m m = true by simp [eqAc]]
    go_wp2
    go_ret
    exact ⟨rfl, HB.out⟩
  · have hl' : 1048576 < l.length := by omega
    clear hE hz
    go_enter Tryd.func6, Tryd.ntmps6
    go_wp2
    go_ret
    exact ⟨rfl, Below.refl _ _⟩
end Go.Proofs.YtkdgpbnngkljkaaDoor
