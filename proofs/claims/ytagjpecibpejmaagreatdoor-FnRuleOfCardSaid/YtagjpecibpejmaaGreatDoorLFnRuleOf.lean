/-
  Texts of walks and plain lemmas for this seat; no condition.
-/
import Derived.Test.YtagjpecibpejmaaGreatDoorGB
import Derived.Test.YtagjpecibpejmaaGreatDoorGC
import Derived.Test.YtagjpecibpejmaaGreatDoorRuleMark
import Derived.Test.YtagjpecibpejmaaGreatDoorSame
import Derived.Test.YtagjpecibpejmaaGreatDoorAlive
import Derived.Test.YtagjpecibpejmaaGreatDoorGD
import Derived.Test.YtagjpecibpejmaaGreatDoorGA
namespace Go.Proofs.YtagjpecibpejmaaGreatDoor
open Go.RowKit

theorem rules_apart : ∀ n, n < 21 → ∀ k, k < n → ¬ (ruleS k true = ruleS n true ∧ ruleS k false = ruleS n false) := by decide +kernel
theorem rules_full : ∀ n, n < 21 → ∀ l, 0 < (ruleS n l).length := by decide +kernel
theorem ruleN_nat {n : Nat} (h : n < 21) (l : Bool) : ruleN (n : Int) l = ruleS n l := by
  have : isR (n : Int) = true := by simp [isR, inB]; omega
  simp [ruleN, this]
theorem ruleN_short (n : Int) (l : Bool) : (ruleN n l).length ≤ 40 := by
  unfold ruleN
  split
  · rename_i h
    have hn : n.toNat < 21 := by simp [isR, inB] at h; omega
    exact (rule_tree _ hn l).2.2
  · simp

set_option maxHeartbeats 1600000 in
theorem DrawRuleOf_any (v : Value) (cs : List Int) (w : World) (h : SlB 0 w.heap.size w v cs) :
    Calls Tryz.prog 11 #[v] w (RetI fun x w' => Below w.heap.size w w' ∧ -1 ≤ x ∧ x ≤ 22) := by
  go_enter Tryz.func11, Tryz.ntmps11
  go_wp2_with fail
  refine (l20Open_any _ cs _ h).mono ?_
  rintro e w1 ⟨_, rfl, g, rfl, hg, hb, hr⟩
  have HB := Lib.hid hb
  have HR := Lib.hid hr
  have hs1 := hb.size
  clear hr hb h
  go_wp2_with fail
  refine (pick_any g _ _ _ HR.out (by omega)).mono ?_
  rintro e w2 ⟨p, rfl, i_, ho, hr⟩
  obtain ⟨i1, i2⟩ : 0 ≤ p ∧ p < 24 := by
    obtain ⟨h1, h2⟩ := i_
    omega
  replace HB := Lib.hid (Below.outside HB.out ho (by omega) (by omega))
  clear ho hr i_
  go_wp2
  go_ret
  exact ⟨_, rfl, HB.out, by omega, by omega⟩

set_option maxRecDepth 100000 in
set_option maxHeartbeats 6400000 in
theorem law_FnRuleOf (v : Value) (cs : List Int) (w : World) (hx : SlB 0 w.heap.size w v cs) (hE : EnvK w) :
    Calls Tryz.prog 3 #[v] w fun e w' => e = .returned (.bool true) ∧ Below w.heap.size w w' := by
  have HX := Lib.hid hx
  have HE := Lib.hid hE
  obtain ⟨⟨a, cap, rfl, hcap, hcm, _⟩, _⟩ := hx
  unfold maxLen at hcm
  clear hE
  by_cases hm : cs.length ≤ 1048576
  · go_enter Tryz.func3, Tryz.ntmps3
    go_wp2_with fail
    refine (DrawRuleOf_any _ cs _ HX.out).mono ?_
    rintro e w1 ⟨n, rfl, hb, hn1, hn2⟩
    have HB := Lib.hid hb
    have hs1 := hb.size
    clear hb HX
    have l1 := ruleN_short n true
    have l2 := ruleN_short n false
    obtain ⟨L, hL⟩ : ∃ L, ruleN n true = L := ⟨_, rfl⟩
    obtain ⟨R, hR⟩ : ∃ R, ruleN n false = R := ⟨_, rfl⟩
    rw [hL] at l1
    rw [hR] at l2
    have HL := Lib.hid hL
    have HRR := Lib.hid hR
    obtain ⟨t, ht⟩ : ∃ t, isR n = t := ⟨_, rfl⟩
    have HT := Lib.hid ht
    have htt : (t != t) = false := by simp
    clear hL hR ht
    go_wp2_with fail
    refine (impl_RuleOf n w1 (HE.out.below HB.out)).mono ?_
    rintro e w2 ⟨a1, b1, c1, rfl, hc, hb, hr⟩
    rw [HT.out] at hc
    rw [HL.out, HRR.out] at hr
    obtain rfl : t = c1 := hc.symm
    have hs2 := hb.size
    replace HB := Lib.hid (HB.out.trans (hb.mono (by omega)))
    have RI := Lib.hid hr.at
    obtain ⟨x1, z1, rfl, _, _⟩ := Sl.shape RI.out.1
    obtain ⟨x2, z2, rfl, _, _⟩ := Sl.shape RI.out.2
    clear hb hr
    obtain ⟨w3, hw3⟩ : ∃ w3, w3 = w2.alloc (.cells #[.slice x1 L.length z1, .slice x2 R.length z2] 26) := ⟨_, rfl⟩
    have hb : Below w2.heap.size w2 w3 := by rw [hw3]; exact (Below.refl _ _).alloc (Nat.le_refl _) _
    have KI : Hid (Blk w2.heap.size (.cells #[.slice x1 L.length z1, .slice x2 R.length z2] 26) w3) := by rw [hw3]; exact Lib.hid (Blk.new _ _)
    have hs3 : w2.heap.size + 1 ≤ w3.heap.size := by rw [hw3]; simp
    replace RI := Lib.hid (RI.out.below hb (by omega))
    replace HB := Lib.hid (HB.out.trans (hb.mono (by omega)))
    have HW3 := Lib.hid hw3
    clear hb hw3
    go_wp2_with (rw [← HW3.out])
    refine (spec_RuleOf n w3).mono ?_
    rintro e w4 ⟨a3, b3, c3, rfl, hc, hb, hr⟩
    rw [HT.out] at hc
    rw [HL.out, HRR.out] at hr
    obtain rfl : t = c3 := hc.symm
    have hs4 := hb.size
    replace RI := Lib.hid (RI.out.below hb (by omega))
    replace KI := Lib.hid (KI.out.below hb (by omega))
    replace HB := Lib.hid (HB.out.trans (hb.mono (by omega)))
    have RS := Lib.hid hr.at
    obtain ⟨x3, z3, rfl, _, _⟩ := Sl.shape RS.out.1
    obtain ⟨x4, z4, rfl, _, _⟩ := Sl.shape RS.out.2
    clear hb hr
    obtain ⟨w5, hw5⟩ : ∃ w5, w5 = w4.alloc (.cells #[.slice x3 L.length z3, .slice x4 R.length z4] 26) := ⟨_, rfl⟩
    have hb : Below w4.heap.size w4 w5 := by rw [hw5]; exact (Below.refl _ _).alloc (Nat.le_refl _) _
    have KS : Hid (Blk w4.heap.size (.cells #[.slice x3 L.length z3, .slice x4 R.length z4] 26) w5) := by rw [hw5]; exact Lib.hid (Blk.new _ _)
    have hs5 : w4.heap.size + 1 ≤ w5.heap.size := by rw [hw5]; simp
    replace RI := Lib.hid (RI.out.below hb (by omega))
    replace RS := Lib.hid (RS.out.below hb (by omega))
    replace KI := Lib.hid (KI.out.below hb (by omega))
    replace HB := Lib.hid (HB.out.trans (hb.mono (by omega)))
    have HW5 := Lib.hid hw5
    clear hb hw5
    have i0 := KI.out.cell 0
    have s0 := KS.out.cell 0
    go_wp2_with (rw [← HW5.out])
    refine (sameInts_same _ _ _ _ _ _ L _ RI.out.1 RS.out.1 (by omega)).mono ?_
    rintro e w6 ⟨rfl, hb⟩
    have hs6 := hb.size
    replace RI := Lib.hid (RI.out.below hb (by omega))
    replace RS := Lib.hid (RS.out.below hb (by omega))
    replace KI := Lib.hid (KI.out.below hb (by omega))
    replace KS := Lib.hid (KS.out.below hb (by omega))
    replace HB := Lib.hid (HB.out.trans (hb.mono (by omega)))
    clear hb i0 s0
    have i1 := KI.out.cell 1
    have s1 := KS.out.cell 1
    go_wp2_with fail
    refine (sameInts_same _ _ _ _ _ _ R _ RI.out.2 RS.out.2 (by omega)).mono ?_
    rintro e w7 ⟨rfl, hb⟩
    have hs7 := hb.size
    replace RI := Lib.hid (RI.out.below hb (by omega))
    replace KI := Lib.hid (KI.out.below hb (by omega))
    replace HB := Lib.hid (HB.out.trans (hb.mono (by omega)))
    clear hb i1 s1 KS RS
    have i0 := KI.out.cell 0
    have i1 := KI.out.cell 1
    cases t
    · obtain rfl : L = [] := by rw [← HL.out, ruleN, HT.out]; rfl
      obtain rfl : R = [] := by rw [← HRR.out, ruleN, HT.out]; rfl
      have hn : n < 0 ∨ ¬ n < 0 ∧ 21 ≤ n := by
        have h := HT.out
        simp [isR, inB] at h
        omega
      rcases hn with hn | ⟨hn, hn'⟩
      all_goals (
        go_wp2_with fail
        refine (alive_any _).mono ?_
        rintro e _ ⟨rfl, rfl⟩
        go_wp2
        go_ret
        exact ⟨rfl, HB.out⟩)
    · obtain ⟨N, rfl, hN⟩ : ∃ N : Nat, n = N ∧ N < 21 := by
        have h := HT.out
        simp [isR, inB] at h
        exact ⟨n.toNat, by omega, by omega⟩
      have hLp : (0 : Int) < (L.length : Int) := by rw [← HL.out, ruleN_nat hN]; have := rules_full N hN true; omega
      have hRp : (0 : Int) < (R.length : Int) := by rw [← HRR.out, ruleN_nat hN]; have := rules_full N hN false; omega
      clear i0 i1 HT htt hn1 hn2
      go_wp2
      go_loopw [8] (fun i wr => ∃ k : Nat, k ≤ N ∧ i = .int .i64 k ∧ Hid (Below w7.heap.size w7 wr)) (fun i _ => N - (intOf i).toNat)
      case atStart => exact ⟨0, by omega, rfl, Lib.hid (Below.refl _ _)⟩
      case round =>
        obtain ⟨k, hk, rfl, HW⟩ := hrel
        have hsr := HW.out.size
        have HBr := Lib.hid (HB.out.trans (HW.out.mono (by omega)))
        have RIr := Lib.hid (RI.out.below HW.out (by omega))
        have KIr := Lib.hid (KI.out.below HW.out (by omega))
        by_cases hlt : k < N
        · have l3 := ruleN_short k true
          have l4 := ruleN_short k false
          obtain ⟨A, hA⟩ : ∃ A, ruleN k true = A := ⟨_, rfl⟩
          obtain ⟨B, hB⟩ : ∃ B, ruleN k false = B := ⟨_, rfl⟩
          rw [hA] at l3
          rw [hB] at l4
          have HAP := Lib.hid (show ¬ (A = L ∧ B = R) by
            rw [← hA, ← hB, ← HL.out, ← HRR.out, ruleN_nat hN, ruleN_nat hN, ruleN_nat (by omega), ruleN_nat (by omega)]
            exact rules_apart N hN k hlt)
          have HA := Lib.hid hA
          have HBB := Lib.hid hB
          clear hA hB
          go_wp2_with fail
          refine (impl_RuleOf k wr (HE.out.below HBr.out)).mono ?_
          rintro e w8 ⟨a8, b8, c8, rfl, _, hb, hr⟩
          rw [HA.out, HBB.out] at hr
          have hs8 := hb.size
          replace RIr := Lib.hid (RIr.out.below hb (by omega))
          replace KIr := Lib.hid (KIr.out.below hb (by omega))
          replace HBr := Lib.hid (HBr.out.trans (hb.mono (by omega)))
          have HW8 := Lib.hid (HW.out.trans (hb.mono (by omega)))
          have RK := Lib.hid hr.at
          obtain ⟨x5, z5, rfl, _, _⟩ := Sl.shape RK.out.1
          obtain ⟨x6, z6, rfl, _, _⟩ := Sl.shape RK.out.2
          clear hb hr
          obtain ⟨w9, hw9⟩ : ∃ w9, w9 = w8.alloc (.cells #[.slice x5 A.length z5, .slice x6 B.length z6] 26) := ⟨_, rfl⟩
          have hb : Below w8.heap.size w8 w9 := by rw [hw9]; exact (Below.refl _ _).alloc (Nat.le_refl _) _
          have KK : Hid (Blk w8.heap.size (.cells #[.slice x5 A.length z5, .slice x6 B.length z6] 26) w9) := by rw [hw9]; exact Lib.hid (Blk.new _ _)
          have hs9 : w8.heap.size + 1 ≤ w9.heap.size := by rw [hw9]; simp
          replace RIr := Lib.hid (RIr.out.below hb (by omega))
          replace KIr := Lib.hid (KIr.out.below hb (by omega))
          replace RK := Lib.hid (RK.out.below hb (by omega))
          replace HBr := Lib.hid (HBr.out.trans (hb.mono (by omega)))
          replace HW8 := Lib.hid (HW8.out.trans (hb.mono (by omega)))
          have HW9 := Lib.hid hw9
          clear hb hw9
          have i0 := KIr.out.cell 0
          have s0 := KK.out.cell 0
          go_wp2_with (rw [← HW9.out])
          refine (sameInts_any _ _ _ _ _ _ A L _ RK.out.1 RIr.out.1 (by omega)).mono ?_
          rintro e w10 ⟨rfl, m1, hw10⟩
          have hb : Below w9.heap.size w9 w10 := by rw [hw10]; exact below_drewN (Below.refl _ _) _
          have hs10 := hb.size
          replace RIr := Lib.hid (RIr.out.below hb (by omega))
          replace KIr := Lib.hid (KIr.out.below hb (by omega))
          replace KK := Lib.hid (KK.out.below hb (by omega))
          replace RK := Lib.hid (RK.out.below hb (by omega))
          replace HW8 := Lib.hid (HW8.out.trans (hb.mono (by omega)))
          clear hb hw10 i0 s0
          cases hq : eqL A L
          · clear hq
            go_wp2
            go_roundw
            case rel => exact ⟨k + 1, by omega, by go_num, HW8⟩
            case measure => simp [intOf]; omega
          · have HNE := Lib.hid (show eqL B R = false by
              have h1 : A = L := by simpa [eqL] using hq
              have h2 : B ≠ R := fun h => HAP.out ⟨h1, h⟩
              simp [eqL, h2])
            clear hq
            have i1 := KIr.out.cell 1
            have s1 := KK.out.cell 1
            go_wp2_with fail
            refine (sameInts_any _ _ _ _ _ _ B R _ RK.out.2 RIr.out.2 (by omega)).mono ?_
            rintro e w11 ⟨rfl, m2, hw11⟩
            have hb : Below w10.heap.size w10 w11 := by rw [hw11]; exact below_drewN (Below.refl _ _) _
            replace HW8 := Lib.hid (HW8.out.trans (hb.mono (by omega)))
            rw [HNE.out]
            clear hb hw11 i1 s1
            go_wp2
            go_roundw
            case rel => exact ⟨k + 1, by omega, by go_num, HW8⟩
            case measure => simp [intOf]; omega
        · obtain rfl : k = N := by omega
          have i0 := KIr.out.cell 0
          have i1 := KIr.out.cell 1
          have hRn : 0 < R.length := by omega
          go_wp2
          go_ret
          exact ⟨rfl, HBr.out⟩
  · go_enter Tryz.func3, Tryz.ntmps3
    go_wp2
    go_ret
    exact ⟨rfl, Below.refl _ _⟩
end Go.Proofs.YtagjpecibpejmaaGreatDoor
