/-
  Texts of walks and plain lemmas for this seat; no condition.
-/
import Derived.Test.YtjpndimhegfbnaaGreatDoorMv
import Derived.Test.YtjpndimhegfbnaaGreatDoorL1In
import Derived.Test.YtjpndimhegfbnaaGreatDoorRows
namespace Go.Proofs.YtjpndimhegfbnaaGreatDoor
open Go.RowKit

def eqMv (m n : Mv) : Bool := decide (m = n)

set_option maxHeartbeats 800000 in
theorem eqMove_any (m n : Mv) (w : World) :
    Calls Tryz.prog 83 #[.agg #[.int .i64 m.which, .bool m.back, .int .i64 m.at_], .agg #[.int .i64 n.which, .bool n.back, .int .i64 n.at_]] w fun e w' => e = .returned (.bool (eqMv m n)) ∧ Below w.heap.size w w' := by
  obtain ⟨a1, a2, a3⟩ := m
  obtain ⟨b1, b2, b3⟩ := n
  have hb : Hid (∀ o1 o2, Below w.heap.size w ((w.alloc o1).alloc o2)) := Lib.hid fun o1 o2 => ((Below.refl _ _).alloc (Nat.le_refl _) _).alloc (by simp) _
  by_cases h1 : a1 = b1
  · subst h1
    by_cases h2 : a2 = b2
    · subst h2
      by_cases h3 : a3 = b3
      · subst h3
        have e1 : (a1 != a1) = false := by simp
        have e3 : (a3 != a3) = false := by simp
        go_enter Tryz.func83, Tryz.ntmps83
        go_wp2
        go_ret
        exact ⟨ret_bool (by simp [eqMv]), hb.out _ _⟩
      · have e1 : (a1 != a1) = false := by simp
        have e3 : (a3 != b3) = true := by simp [h3]
        have H3 := Lib.hid h3
        clear h3
        go_enter Tryz.func83, Tryz.ntmps83
        go_wp2
        go_ret
        exact ⟨ret_bool (by simp [eqMv, H3.out]), hb.out _ _⟩
    · have e1 : (a1 != a1) = false := by simp
      have e2 : (a2 == b2) = false := by simp [h2]
      have H2 := Lib.hid h2
      clear h2
      go_enter Tryz.func83, Tryz.ntmps83
      go_wp2
      go_ret
      exact ⟨ret_bool (by simp [eqMv, H2.out]), hb.out _ _⟩
  · have e1 : (a1 != b1) = true := by simp [h1]
    have H1 := Lib.hid h1
    clear h1
    go_enter Tryz.func83, Tryz.ntmps83
    go_wp2
    go_ret
    exact ⟨ret_bool (by simp [eqMv, H1.out]), hb.out _ _⟩
end Go.Proofs.YtjpndimhegfbnaaGreatDoor
