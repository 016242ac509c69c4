/-
  Texts of walks and plain lemmas for this seat; no condition.
-/
import Derived.Test.YtjpndimhegfbnaaGreatDoorSRule
import Derived.Test.YtjpndimhegfbnaaGreatDoorRuleMark
namespace Go.Proofs.YtjpndimhegfbnaaGreatDoor
open Go.RowKit

theorem ruleN_len (n : Int) (l : Bool) : (ruleN n l).length ≤ 98 := by
  unfold ruleN
  split
  · rename_i h
    have hn : n.toNat < 21 := by simp [isR, inB] at h; omega
    obtain ⟨e, h1, h2, h3, h4⟩ := side_open hn l
    rw [h3]
    have := sum_short _ _ _ _ h1
    simp at this ⊢
    omega
  · simp
theorem RuleOwn.forms {lo hi : Nat} {w : World} {a b : Value} {L R : List Int} (h : RuleOwn lo hi w a b L R) : (∃ x l c, a = .slice x l c) ∧ (∃ x l c, b = .slice x l c) := by
  obtain ⟨m, _, _, h3, h4⟩ := h
  obtain ⟨x, c, hx, _⟩ := Own.open h3
  obtain ⟨y, d, hy, _⟩ := Own.open h4
  exact ⟨⟨x, _, c, hx⟩, ⟨y, _, d, hy⟩⟩

set_option maxRecDepth 100000 in
set_option maxHeartbeats 3200000 in
theorem law_FnExactRuleOf (n : Int) (w : World) (hE : EnvK w) :
    Calls Tryz.prog 3 #[.int .i64 n] w fun e w' => e = .returned (.bool true) ∧ Below w.heap.size w w' := by
  have HE := Lib.hid hE
  have l1 := ruleN_len n true
  have l2 := ruleN_len n false
  obtain ⟨L, hL⟩ : ∃ L, L = ruleN n true := ⟨_, rfl⟩
  obtain ⟨R, hR⟩ : ∃ R, R = ruleN n false := ⟨_, rfl⟩
  have HS := Lib.hid (spec_RuleOf n w)
  have HI : Hid (∀ wx, EnvK wx → Calls Tryz.prog 16 #[.int .i64 n] wx (RetRB fun a b c w' => c = isR n ∧ Below wx.heap.size wx w' ∧ RuleOwn wx.heap.size w'.heap.size w' a b (ruleN n true) (ruleN n false))) := Lib.hid fun wx h => impl_RuleOf n wx h
  rw [← hL, ← hR] at HS HI
  rw [← hL] at l1
  rw [← hR] at l2
  obtain ⟨t, ht⟩ : ∃ t, t = isR n := ⟨_, rfl⟩
  rw [← ht] at HS HI
  clear hE hL hR ht
  go_enter Tryz.func3, Tryz.ntmps3
  go_wp2_with fail
  refine HS.out.mono ?_
  rintro e w1 ⟨a1, b1, _, rfl, rfl, hb, hr⟩
  obtain ⟨⟨x1, y1, z1, rfl⟩, ⟨x2, y2, z2, rfl⟩⟩ := hr.forms
  have RS := Lib.hid hr.at
  have HB := Lib.hid hb
  have hs0 := hb.size
  clear hb hr
  obtain ⟨w2, hw2⟩ : ∃ w2, w2 = w1.alloc (.cells #[.slice x1 y1 z1, .slice x2 y2 z2] 24) := ⟨_, rfl⟩
  have hb : Below w1.heap.size w1 w2 := by rw [hw2]; exact (Below.refl _ _).alloc (Nat.le_refl _) _
  have KS : Hid (Blk w1.heap.size (.cells #[.slice x1 y1 z1, .slice x2 y2 z2] 24) w2) := by rw [hw2]; exact Lib.hid (Blk.new _ _)
  replace RS := Lib.hid (RS.out.below hb (by omega))
  replace HB := Lib.hid (HB.out.trans (hb.mono HB.out.size))
  have hs1 := hb.size
  have hs1' : w2.heap.size = w1.heap.size + 1 := by rw [hw2]; simp
  have HW2 := Lib.hid hw2
  clear hb hw2
  go_wp2_with fail
  simp only [← HW2.out]
  refine (HI.out w2 (HE.out.below HB.out)).mono ?_
  rintro e w3 ⟨a3, b3, _, rfl, rfl, hb, hr⟩
  obtain ⟨⟨x3, y3, z3, rfl⟩, ⟨x4, y4, z4, rfl⟩⟩ := hr.forms
  replace RS := Lib.hid (RS.out.below hb (by omega))
  replace KS := Lib.hid (KS.out.below hb KS.out.lt)
  replace HB := Lib.hid (HB.out.trans (hb.mono HB.out.size))
  have hs2 := hb.size
  have RI := Lib.hid hr
  clear hb hr
  obtain ⟨w4, hw4⟩ : ∃ w4, w4 = w3.alloc (.cells #[.slice x3 y3 z3, .slice x4 y4 z4] 24) := ⟨_, rfl⟩
  have hb : Below w3.heap.size w3 w4 := by rw [hw4]; exact (Below.refl _ _).alloc (Nat.le_refl _) _
  have KI : Hid (Blk w3.heap.size (.cells #[.slice x3 y3 z3, .slice x4 y4 z4] 24) w4) := by rw [hw4]; exact Lib.hid (Blk.new _ _)
  replace RS := Lib.hid (RS.out.below hb (by omega))
  replace RI := Lib.hid (RI.out.below hb (Nat.le_refl _))
  replace KS := Lib.hid (KS.out.below hb KS.out.lt)
  replace HB := Lib.hid (HB.out.trans (hb.mono HB.out.size))
  have hs3 := hb.size
  have hs3' : w4.heap.size = w3.heap.size + 1 := by rw [hw4]; simp
  have HW4 := Lib.hid hw4
  clear hb
  have c0 := KS.out.cell 0
  have c1 := KS.out.cell 1
  have d0 := KI.out.cell 0
  have d1 := KI.out.cell 1
  rw [hw4] at c0 c1 d0 d1
  clear hw4
  go_wp2_with fail
  simp only [← HW4.out]
  clear c0 c1 d0 d1
  refine (eqRule_same _ _ _ _ _ _ _ _ L R _ RI.out.at RS.out (by omega) (by omega) (by omega)).mono ?_
  rintro e w5 ⟨rfl, hb⟩
  have hs5 := hb.size
  replace RS := Lib.hid (RS.out.below hb (by omega))
  replace RI := Lib.hid (RI.out.below hb (by omega))
  replace KS := Lib.hid (KS.out.below hb KS.out.lt)
  replace KI := Lib.hid (KI.out.below hb KI.out.lt)
  replace HB := Lib.hid (HB.out.trans (hb.mono HB.out.size))
  clear hb
  have c0 := KS.out.cell 0
  have c1 := KS.out.cell 1
  have d0 := KI.out.cell 0
  have d1 := KI.out.cell 1
  go_wp2_with fail
  refine (markRule_any w2.heap.size w3.heap.size _ _ L R 1 _ RI.out (by omega) (by omega) (by omega) (by omega)).mono ?_
  rintro e w6 ⟨rfl, ho, hr⟩
  have hs6 := ho.size
  replace RS := Lib.hid (RS.out.outside ho (.inl (by omega)))
  replace KS := Lib.hid (KS.out.outside ho (.inl (by omega)))
  replace KI := Lib.hid (KI.out.outside ho (.inr (by omega)))
  replace HB := Lib.hid (Below.outside HB.out ho (by omega) HB.out.size)
  replace RI := Lib.hid hr
  clear ho hr c0 c1 d0 d1
  have c0 := KS.out.cell 0
  have c1 := KS.out.cell 1
  have d0 := KI.out.cell 0
  have d1 := KI.out.cell 1
  go_wp2_with fail
  refine (heldRule_any w2.heap.size w3.heap.size _ _ L.length R.length 1 _ RI.out.at (by omega) (by omega) (by omega) (by omega)).mono ?_
  rintro e w7 ⟨rfl, hb⟩
  have hs7 := hb.size
  replace RS := Lib.hid (RS.out.below hb (by omega))
  replace RI := Lib.hid (RI.out.below hb (by omega))
  replace KS := Lib.hid (KS.out.below hb KS.out.lt)
  replace KI := Lib.hid (KI.out.below hb KI.out.lt)
  replace HB := Lib.hid (HB.out.trans (hb.mono HB.out.size))
  clear hb c0 c1 d0 d1
  go_wp2_with fail
  refine (HI.out w7 (HE.out.below HB.out)).mono ?_
  rintro e w8 ⟨a5, b5, _, rfl, rfl, hb, hr⟩
  obtain ⟨⟨x5, y5, z5, rfl⟩, ⟨x6, y6, z6, rfl⟩⟩ := hr.forms
  have hs8 := hb.size
  have RH := Lib.hid hr
  replace RS := Lib.hid (RS.out.below hb (by omega))
  replace RI := Lib.hid (RI.out.below hb (by omega))
  replace KS := Lib.hid (KS.out.below hb KS.out.lt)
  replace KI := Lib.hid (KI.out.below hb KI.out.lt)
  replace HB := Lib.hid (HB.out.trans (hb.mono HB.out.size))
  clear hb hr
  obtain ⟨w9, hw9⟩ : ∃ w9, w9 = w8.alloc (.cells #[.slice x5 y5 z5, .slice x6 y6 z6] 24) := ⟨_, rfl⟩
  have hb : Below w8.heap.size w8 w9 := by rw [hw9]; exact (Below.refl _ _).alloc (Nat.le_refl _) _
  have KH : Hid (Blk w8.heap.size (.cells #[.slice x5 y5 z5, .slice x6 y6 z6] 24) w9) := by rw [hw9]; exact Lib.hid (Blk.new _ _)
  have hs9 := hb.size
  replace RH := Lib.hid (RH.out.below hb (by omega))
  replace RS := Lib.hid (RS.out.below hb (by omega))
  replace RI := Lib.hid (RI.out.below hb (by omega))
  replace KS := Lib.hid (KS.out.below hb KS.out.lt)
  replace KI := Lib.hid (KI.out.below hb KI.out.lt)
  replace HB := Lib.hid (HB.out.trans (hb.mono HB.out.size))
  have HW9 := Lib.hid hw9
  clear hb
  have c0 := KS.out.cell 0
  have c1 := KS.out.cell 1
  have d0 := KI.out.cell 0
  have d1 := KI.out.cell 1
  have e0 := KH.out.cell 0
  have e1 := KH.out.cell 1
  rw [hw9] at c0 c1 d0 d1 e0 e1
  clear hw9
  go_wp2_with fail
  simp only [← HW9.out]
  clear c0 c1 d0 d1 e0 e1
  refine (eqRule_same _ _ _ _ _ _ _ _ L R _ RH.out.at RS.out (by omega) (by omega) (by omega)).mono ?_
  rintro e w10 ⟨rfl, hb⟩
  have hs10 := hb.size
  replace RS := Lib.hid (RS.out.below hb (by omega))
  replace RI := Lib.hid (RI.out.below hb (by omega))
  replace KS := Lib.hid (KS.out.below hb KS.out.lt)
  replace KI := Lib.hid (KI.out.below hb KI.out.lt)
  replace HB := Lib.hid (HB.out.trans (hb.mono HB.out.size))
  clear hb
  have c0 := KS.out.cell 0
  have c1 := KS.out.cell 1
  have d0 := KI.out.cell 0
  have d1 := KI.out.cell 1
  go_wp2_with fail
  refine (heldRule_any w2.heap.size w3.heap.size _ _ L.length R.length 1 _ RI.out.at (by omega) (by omega) (by omega) (by omega)).mono ?_
  rintro e w11 ⟨rfl, hb⟩
  replace HB := Lib.hid (HB.out.trans (hb.mono HB.out.size))
  clear hb c0 c1 d0 d1
  go_wp2
  go_ret
  exact ⟨rfl, HB.out⟩
end Go.Proofs.YtjpndimhegfbnaaGreatDoor
