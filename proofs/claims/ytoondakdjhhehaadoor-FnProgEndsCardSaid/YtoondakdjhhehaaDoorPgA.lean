/-
  Texts of walks and plain lemmas for this seat; no condition.
-/
import Derived.Test.YtoondakdjhhehaaDoorCertI
import Derived.Test.YtoondakdjhhehaaDoorGA
import Derived.Test.YtoondakdjhhehaaDoorGQ
namespace Go.Proofs.YtoondakdjhhehaaDoor
open Go.RowKit
set_option linter.unusedVariables false

theorem impl_AtomOf (la ha n p q s : Nat) (acts : List (List Int)) (va : Value) (w : World) (hok : MoOk n p q acts) (hs : s < n) (hA : SlLL la ha w va acts) (hha : ha ≤ w.heap.size) (hm : acts.length ≤ 1048576) (hm2 : ∀ x ∈ acts, x.length ≤ 1048576) :
    Calls Tryd.prog 34 #[aggMo (⟨(n : Int), (p : Int), (q : Int), acts⟩ : Mo) va, .int .i64 s] w fun e w' => e = .returned (.int .i64 ((atomN (⟨(n : Int), (p : Int), (q : Int), acts⟩ : Mo) s : Nat) : Int)) ∧ Below w.heap.size w w' := by
  obtain ⟨sa, sc, rfl, _, hmc⟩ := hA.shape
  clear hmc
  have hn5 := hok.n5
  obtain ⟨hp2, hq2⟩ := hok.small
  have hmod := hok.mod
  have HMV := Lib.hid (implModelValid la ha (⟨(n : Int), (p : Int), (q : Int), acts⟩ : Mo) (.slice sa acts.length sc))
  rw [hmod] at HMV
  have HHS : Hid (∀ w, Calls Tryd.prog 40 #[aggMo (⟨(n : Int), (p : Int), (q : Int), acts⟩ : Mo) (.slice sa acts.length sc), .int .i64 s] w fun e w' => e = .returned (.bool true) ∧ Below w.heap.size w w') := Lib.hid fun w => (impl_hasState _ _ (s : Int) w ⟨_, _, _, rfl⟩).mono (by
    rintro e w' ⟨rfl, h⟩
    refine ⟨?_, h⟩
    rw [show inB (s : Int) 0 ((n : Int) - 1) = true by simp [inB]; omega])
  have HAT := Lib.hid fun w => atom_any (⟨(n : Int), (p : Int), (q : Int), acts⟩ : Mo) (.slice sa acts.length sc) s p q w rfl rfl hp2 hq2 (by omega)
  obtain ⟨w0, hw0⟩ : ∃ w0, w0 = w.alloc (.cells #[.int .i64 n, .int .i64 p, .int .i64 q, .slice sa acts.length sc] 25) := ⟨_, rfl⟩
  obtain ⟨hb0, KB_, hs0⟩ := box_facts3 hw0
  have KB := Lib.hid KB_
  have HB := Lib.hid hb0
  have HA := Lib.hid (hA.below hb0 hha)
  have HM2 := Lib.hid hm2
  have HW := Lib.hid hw0
  have hgl := KB.out.lt
  have k0 := KB.out.cell 0
  have k1 := KB.out.cell 1
  have k2 := KB.out.cell 2
  have k3 := KB.out.cell 3
  obtain ⟨A, hAA⟩ : ∃ A, A = atomN (⟨(n : Int), (p : Int), (q : Int), acts⟩ : Mo) s := ⟨_, rfl⟩
  rw [← hAA] at HAT ⊢
  clear hA hm2 hb0 KB_ hw0 hok hmod hAA
  go_enter Tryd.func34, Tryd.ntmps34
  go_upto_region 1 with (rw [← HW.out])
  try rw [← HW.out]
  go_wp2_with fail
  refine (HMV.out w0 HA.out (by omega) hm HM2.out).mono ?_
  rintro e w2 ⟨rfl, hb2⟩
  clear k0 k1 k2 k3 HMV
  have hs2 := hb2.size
  have KR := Lib.hid (KB.out.below hb2 hgl)
  replace HB := Lib.hid (HB.out.trans (hb2.mono (by omega)))
  have hgl2 := KR.out.lt
  have k0 := KR.out.cell 0
  have k1 := KR.out.cell 1
  have k2 := KR.out.cell 2
  have k3 := KR.out.cell 3
  clear hb2 KB HA
  go_wp2_with fail
  refine (HHS.out w2).mono ?_
  rintro e w3 ⟨rfl, hb3⟩
  clear k0 k1 k2 k3
  have hs3 := hb3.size
  have KS := Lib.hid (KR.out.below hb3 hgl2)
  replace HB := Lib.hid (HB.out.trans (hb3.mono (by omega)))
  have k0 := KS.out.cell 0
  have k1 := KS.out.cell 1
  have k2 := KS.out.cell 2
  have k3 := KS.out.cell 3
  clear hb3 KR
  go_wp2_with fail
  refine (HAT.out w3).mono ?_
  rintro e w4 ⟨rfl, hb4⟩
  clear k0 k1 k2 k3
  have HBF := Lib.hid (HB.out.trans (hb4.mono (by omega)))
  clear hb4
  go_wp2
  go_ret
  exact ⟨rfl, HBF.out⟩
theorem hb_bit (t k : Nat) : hb t k = t.testBit k := by
  rw [hb, Nat.testBit_eq_decide_div_mod_eq, Nat.shiftRight_eq_div_pow]
  rfl
theorem isAtom_any (a : Nat) (w : World) (ha : a < 4) : Calls Tryd.prog 70 #[.int .i64 a] w fun e w' => e = .returned (.bool true) ∧ w = w' := by
  have h0 : (0 : Int) ≤ (a : Int) := by omega
  have h4 : (a : Int) ≤ 3 := by omega
  go_enter Tryd.func70, Tryd.ntmps70
  go_wp2
  go_ret
  exact ⟨rfl, rfl⟩
theorem impl_TestHolds (t a : Nat) (w : World) (ht : t < 16) (ha : a < 4) : Calls Tryd.prog 33 #[.int .i64 t, .int .i64 a] w fun e w' => e = .returned (.bool (t.testBit a)) ∧ w = w' := by
  have HTV : Hid (∀ w, Calls Tryd.prog 54 #[.int .i64 (t : Nat)] w fun e w' => e = .returned (.bool true) ∧ w = w') := Lib.hid fun w => (testValid_any (t : Int) w).mono (by rintro e _ ⟨rfl, rfl⟩; exact ⟨by rw [show inB (t : Int) 0 15 = true by simp [inB]; omega], rfl⟩)
  have HHO := Lib.hid (holds_any t a ht ha)
  rw [hb_bit] at HHO
  have h0 : (0 : Int) ≤ (a : Int) := by omega
  have h4 : (a : Int) ≤ 3 := by omega
  go_enter Tryd.func33, Tryd.ntmps33
  go_wp2_with (first | (go_at_call 54; refine (HTV.out _).mono ?_; rintro e w' ⟨rfl, rfl⟩) | (go_at_call 70; refine (isAtom_any a _ ha).mono ?_; rintro e w' ⟨rfl, rfl⟩) | (go_at_call 42; refine (HHO.out _).mono ?_; rintro e w' ⟨rfl, rfl⟩))
  go_ret
  exact ⟨rfl, rfl⟩
end Go.Proofs.YtoondakdjhhehaaDoor
