/-
  Texts of walks and plain lemmas for this seat; no condition.
-/
import Derived.Test.YtacgefknhncgfaaDoorGA
import Derived.ProofKit
import Derived.LaidMore
import Derived.OpenShut
import Derived.Stop.Joined
import Derived.Maps.OwnSet
import Derived.Maps.StringElems
import Derived.ChangeBears2
import Derived.OpenVars
import Derived.Stop.LaidErr
namespace Go.Proofs.YtacgefknhncgfaaDoor
open Go.RowKit
open Go.ChangeShapes Go.WideShapes Go.ChangeAt Go.WideElems Go.RowKit Go.Maps

theorem gNames : Tryd.prog.globalNamed "loop.example/kleenetests/impl.testNames" = some 0 := by kernel_rfl
theorem tNames : (Tryd.prog.globals[0]?).map (·.type) = some 69 := by kernel_rfl
theorem keyT : Keyed Tryd.prog 3 := int_keyed Tryd.underlying3
theorem zeroS (w : World) : (zeroValue 9).run Tryd.prog w = .ok (.string ⟨#[]⟩) w := by kernel_rfl
theorem atLaid (t : Nat) (ht : t < 16) : (Rows.laid_loop_example_kleenetests_impl_testNames : DataW Unit).atKey (.int .i64 t) .nil = (match namedT t with | some s => .lit (.string s) | none => .nil) := by
  have h1 : t = 0 ∨ t = 1 ∨ t = 2 ∨ t = 3 ∨ t = 4 ∨ t = 5 ∨ t = 6 ∨ t = 7 ∨ t = 8 ∨ t = 9 ∨ t = 10 ∨ t = 11 ∨ t = 12 ∨ t = 13 ∨ t = 14 ∨ t = 15 := by omega
  clear ht
  rcases h1 with rfl | rfl | rfl | rfl | rfl | rfl | rfl | rfl | rfl | rfl | rfl | rfl | rfl | rfl | rfl | rfl
  all_goals rfl

set_option maxRecDepth 100000 in
theorem mapT_of {W : World} (h : laidMet Tryd.prog [("loop.example/kleenetests/impl.testNames", Rows.laid_loop_example_kleenetests_impl_testNames)] W) : MapT W := by
  obtain ⟨ps, ⟨g0, t0, cs0, f0, p0, q0, hg0, ht0, hv0, hd0, _, _⟩, _, _⟩ := h
  obtain rfl := Option.some.inj (gNames.symm.trans hg0)
  obtain rfl := Option.some.inj (tNames.symm.trans ht0)
  rcases open_map Tryd.underlying69 hd0 with ⟨_, hx⟩ | ⟨bm, es, clock, m, _, hcs, hb, _, F, hx⟩
  · simp [Rows.laid_loop_example_kleenetests_impl_testNames] at hx
  simp only [Prod.mk.injEq] at hx
  have hcell : W.cell? ⟨0, 0, none⟩ = some (.map (some bm)) := by
    have := World.var?_cell hg0 hv0 0
    rw [Array.eq_one_of_toList hcs] at this
    simpa using this
  have hown := World.ownsMap_of_fit (R := plainElem Tryd.prog 9) hb F (fun x _ z hz => elemAt_plainElem_string Tryd.underlying9 hz)
  rw [← hx.1] at hown
  obtain ⟨es', cl', hb2, F', _, hD⟩ := hown
  refine ⟨bm, hcell, (Array.getElem?_eq_some_iff.1 hb2).1, fun w' hw t ht => ?_⟩
  have hL := atLaid t ht
  rw [hD] at hL
  rcases fit_look true keyT Tryd.underlying69 (zeroS w') (hw.trans hb2) F' (keyOf_int_mk Tryd.underlying3 (WalkArith.wf_i64 (n := (t : Int)) ⟨by omega, by omega⟩)) with ⟨hrun, _, hat⟩ | ⟨e0, y, _, _, hrun, hRv, hat, _⟩
  · rw [hat .nil] at hL
    cases hn : namedT t with
    | none => exact hrun
    | some s => rw [hn] at hL; cases hL
  · obtain ⟨s, hs, hy, _⟩ := plainElem_string_inv Tryd.underlying9 hRv
    rw [hat .nil, hy] at hL
    cases hn : namedT t with
    | none => rw [hn] at hL; cases hL
    | some s' =>
      rw [hn] at hL
      injection hL with hL
      injection hL with hL
      subst hL
      rw [hrun, hs]
      rfl
end Go.Proofs.YtacgefknhncgfaaDoor
