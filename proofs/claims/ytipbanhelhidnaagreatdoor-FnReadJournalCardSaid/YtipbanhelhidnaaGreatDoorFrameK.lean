/-
  Texts of walks and plain lemmas for this seat; no condition.
-/
import Derived.Test.YtipbanhelhidnaaGreatDoorGA
import Derived.Test.YtipbanhelhidnaaGreatDoorGB
import Derived.ProofKit
import Derived.LaidMore
import Derived.OpenShut
import Derived.Stop.Joined
import Derived.Maps.OwnSet
import Derived.Maps.StringElems
import Derived.ChangeBears2
import Derived.OpenVars
import Derived.Stop.LaidErr
namespace Go.Proofs.YtipbanhelhidnaaGreatDoor
open Go.RowKit
open Go.ChangeShapes Go.WideShapes Go.ChangeAt Go.WideElems Go.RowKit Go.Maps

theorem most_ofK {w : World} (h : w.ShapedOpen Tryz.prog) : ∃ m, w.cell? ⟨1, 0, none⟩ = some (.int .i64 m) :=
  cell_of_shapedOpen_int (zero := #[.int .i64 0]) (t := 3) h (of_decide_eq_true (by kernel_rfl)) (by kernel_rfl) rfl (by kernel_rfl) (by kernel_rfl) Tryz.underlying3
theorem gNames : Tryz.prog.globalNamed "loop.example/kleenetests/impl.testNames" = some 0 := by kernel_rfl
theorem tNames : (Tryz.prog.globals[0]?).map (·.type) = some 97 := by kernel_rfl
theorem gRules : Tryz.prog.globalNamed "loop.example/kleenetests/impl.ruleTexts" = some 4 := by kernel_rfl
theorem tRules : (Tryz.prog.globals[4]?).map (·.type) = some 82 := by kernel_rfl
theorem keyT : Keyed Tryz.prog 3 := int_keyed Tryz.underlying3
theorem zeroS (w : World) : (zeroValue 9).run Tryz.prog w = .ok (.string ⟨#[]⟩) w := by kernel_rfl
theorem atLaid (t : Nat) (ht : t < 16) : (Rows.laid_loop_example_kleenetests_impl_testNames : DataW Unit).atKey (.int .i64 t) .nil = (match namedT t with | some s => .lit (.string s) | none => .nil) := by
  have h1 : t = 0 ∨ t = 1 ∨ t = 2 ∨ t = 3 ∨ t = 4 ∨ t = 5 ∨ t = 6 ∨ t = 7 ∨ t = 8 ∨ t = 9 ∨ t = 10 ∨ t = 11 ∨ t = 12 ∨ t = 13 ∨ t = 14 ∨ t = 15 := by omega
  clear ht
  rcases h1 with rfl | rfl | rfl | rfl | rfl | rfl | rfl | rfl | rfl | rfl | rfl | rfl | rfl | rfl | rfl | rfl
  all_goals rfl
theorem rulesLaid : (Rows.laid_loop_example_kleenetests_impl_ruleTexts : DataW Unit) = .slice (ruleT.map fun l => .lit (.string l)) [] := by rfl

set_option maxRecDepth 100000 in
theorem envK_of {W : World} (h : laidMet Tryz.prog [("loop.example/kleenetests/impl.testNames", Rows.laid_loop_example_kleenetests_impl_testNames), ("loop.example/kleenetests/impl.ruleTexts", Rows.laid_loop_example_kleenetests_impl_ruleTexts)] W) (hSh : W.ShapedOpen Tryz.prog) : EnvK W := by
  obtain ⟨ps, ⟨g0, t0, cs0, f0, p0, q0, hg0, ht0, hv0, hd0, ⟨g1, t1, cs1, f1, p1, q1, hg1, ht1, hv1, hd1, _, _⟩, _⟩, _, _⟩ := h
  obtain rfl := Option.some.inj (gNames.symm.trans hg0)
  obtain rfl := Option.some.inj (gRules.symm.trans hg1)
  obtain rfl := Option.some.inj (tNames.symm.trans ht0)
  obtain rfl := Option.some.inj (tRules.symm.trans ht1)
  refine ⟨?_, ?_, most_ofK hSh⟩
  · rcases open_map Tryz.underlying97 hd0 with ⟨_, hx⟩ | ⟨bm, es, clock, m, _, hcs, hb, _, F, hx⟩
    · simp [Rows.laid_loop_example_kleenetests_impl_testNames] at hx
    simp only [Prod.mk.injEq] at hx
    have hcell : W.cell? ⟨0, 0, none⟩ = some (.map (some bm)) := by
      have := World.var?_cell hg0 hv0 0
      rw [Array.eq_one_of_toList hcs] at this
      simpa using this
    have hown := World.ownsMap_of_fit (R := plainElem Tryz.prog 9) hb F (fun x _ z hz => elemAt_plainElem_string Tryz.underlying9 hz)
    rw [← hx.1] at hown
    obtain ⟨es', cl', hb2, F', _, hD⟩ := hown
    refine ⟨bm, hcell, (Array.getElem?_eq_some_iff.1 hb2).1, fun w' hw t ht => ?_⟩
    have hL := atLaid t ht
    rw [hD] at hL
    rcases fit_look true keyT Tryz.underlying97 (zeroS w') (hw.trans hb2) F' (keyOf_int_mk Tryz.underlying3 (WalkArith.wf_i64 (n := (t : Int)) ⟨by omega, by omega⟩)) with ⟨hrun, _, hat⟩ | ⟨e0, y, _, _, hrun, hRv, hat, _⟩
    · rw [hat .nil] at hL
      cases hn : namedT t with
      | none => exact hrun
      | some s => rw [hn] at hL; cases hL
    · obtain ⟨s, hs, hy, _⟩ := plainElem_string_inv Tryz.underlying9 hRv
      rw [hat .nil, hy] at hL
      cases hn : namedT t with
      | none => rw [hn] at hL; cases hL
      | some s' =>
        rw [hn] at hL
        injection hL with hL
        injection hL with hL
        subst hL
        rw [hrun, hs]
        rfl
  · rw [rulesLaid] at hd1
    obtain ⟨a, cap, hcs, _, hel⟩ := open_row Tryz.underlying82 (by kernel_rfl) hd1
    have hlen : (ruleT.map fun l => (DataW.lit (.string l) : DataW Unit)).length = 21 := by simp [ruleT]
    rw [hlen] at hcs
    have hget : ∀ j, j < 21 → W.cell? (a.add j) = some (.string ⟨(ruleT.getD j []).toArray⟩) := by
      intro j hj
      have hjl : j < ruleT.length := hj
      obtain ⟨v, n, q, h1, h2⟩ := hel j (.lit (.string (ruleT.getD j []))) (by simp [List.getD, hjl])
      obtain ⟨s, hs1, hs2, _⟩ := DataW.trod_string Tryz.underlying9 h2
      injection hs1 with hs1 _
      subst hs1
      injection hs2 with hs2 _
      injection hs2 with hs2
      injection hs2 with hs2
      rw [h1, hs2]
    obtain ⟨rb, off, sp⟩ := a
    have hsp : sp = none := by
      have h0 := hget 0 (by omega)
      have h1 := cell_spot h0
      simpa [Addr.add] using h1
    subst hsp
    refine ⟨rb, off, cap, ?_, fun j hj => ?_⟩
    · have := World.var?_cell hg1 hv1 0
      rw [Array.eq_one_of_toList hcs] at this
      simpa using this
    · have h := hget j hj
      rwa [Addr.add_lit] at h
end Go.Proofs.YtipbanhelhidnaaGreatDoor
