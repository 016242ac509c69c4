/-
  Texts of walks and plain lemmas for this seat; no condition.
-/
import Derived.Test.YtoondakdjhhehaaDWords
namespace Go.Proofs.Ytoondakdjhhehaa
open Go.RowKit
set_option linter.unusedVariables false

set_option maxHeartbeats 1600000 in
theorem DrawProgKat_any (v : Value) (bs : List Int) (w : World) (h : SlB 0 w.heap.size w v bs) :
    Calls Try.prog 4 #[v] w (RetV fun u w' => ∃ cs : List Int, OwnI w.heap.size w'.heap.size 3 w' u cs ∧ cs.length ≤ 60 ∧ Below w.heap.size w w') := by
  go_enter Try.func4, Try.ntmps4
  go_wp2_with fail
  refine (l20Open_any _ bs _ h).mono ?_
  rintro e w1 ⟨_, rfl, g, rfl, hg, hb, hr⟩
  have hs1 := hb.size
  have HB := Lib.hid hb
  have HR := Lib.hid hr
  clear hb hr h
  go_wp2_with fail
  refine (l20Words_any g 0 9 _ HR.out (by omega) (by omega)).mono ?_
  rintro e w2 ⟨u, rfl, cs, ho, hl, _, h_, r_⟩
  have HO := Lib.hid (And.intro ho h_)
  clear ho h_ r_
  go_wp2
  go_ret
  exact RetV.mk _ rfl ⟨cs, Own.wide2 HO.out.1 hs1 (Nat.le_refl _), hl, Below.outside HB.out HO.out.2 hg hs1⟩
end Go.Proofs.Ytoondakdjhhehaa
