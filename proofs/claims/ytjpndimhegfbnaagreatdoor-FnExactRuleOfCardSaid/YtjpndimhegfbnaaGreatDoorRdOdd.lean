/-
  Texts of walks and plain lemmas for this seat; no condition.
-/
import Derived.Test.YtjpndimhegfbnaaGreatDoorRd
namespace Go.Proofs.YtjpndimhegfbnaaGreatDoor
open Go.RowKit

set_option maxHeartbeats 800000 in
theorem odd_any (g c : Nat) (n : Int) (w : World) (h : Rd g w c) (hc : c ≤ 1000000000000) (hn : n ≤ 1000000) :
    Calls Tryz.prog 102 #[.pointer (some ⟨g, 0, none⟩), .int .i64 n] w (RetB fun _ w' => Outside g (g + 1) w w' ∧ Rd g w' (c + 1)) := by
  by_cases h0 : 0 < n
  · go_enter Tryz.func102, Tryz.ntmps102
    go_wp2_with (go_at_call 100; refine (pick_any g c _ _ h hc).mono ?_; rintro e w1 ⟨x, rfl, h1, h2, h3⟩)
    go_ret
    exact RetB.mk _ rfl ⟨h2, h3⟩
  · go_enter Tryz.func102, Tryz.ntmps102
    go_wp2
    go_ret
    exact RetB.mk _ rfl ⟨Outside.refl _ _ _, h.mono (by omega)⟩

set_option maxHeartbeats 800000 in
theorem odd2_any (g c : Nat) (n : Int) (w : World) (h : Rd g w c) (hc : c ≤ 1000000000000) (hn : n ≤ 1000000) :
    Calls Tryz.prog 102 #[.pointer (some ⟨g, 0, none⟩), .int .i64 n] w (RetB fun b w' => (b = true → 0 < n) ∧ Outside g (g + 1) w w' ∧ Rd g w' (c + 1)) := by
  by_cases h0 : 0 < n
  · go_enter Tryz.func102, Tryz.ntmps102
    go_wp2_with (go_at_call 100; refine (pick_any g c _ _ h hc).mono ?_; rintro e w1 ⟨x, rfl, h1, h2, h3⟩)
    go_ret
    exact RetB.mk _ rfl ⟨fun _ => h0, h2, h3⟩
  · go_enter Tryz.func102, Tryz.ntmps102
    go_wp2
    go_ret
    exact RetB.mk _ rfl ⟨(fun hb => by cases hb), Outside.refl _ _ _, h.mono (by omega)⟩
end Go.Proofs.YtjpndimhegfbnaaGreatDoor
