/-
  Texts of walks and plain lemmas for this seat; no condition.
-/
import Derived.Test.YtoondakdjhhehaaDoorSCRun
import Derived.Test.YtoondakdjhhehaaDoorSRows
import Derived.Test.YtoondakdjhhehaaDoorGA
namespace Go.Proofs.YtoondakdjhhehaaDoor
open Go.RowKit
set_option linter.unusedVariables false

theorem or_pow {a k : Nat} (h : a < 2 ^ k) : a ||| 2 ^ k = a + 2 ^ k := by
  have := Nat.two_pow_add_eq_or_of_lt h 1
  rw [Nat.mul_one] at this
  rw [Nat.or_comm, ← this, Nat.add_comm]
theorem sk_bd {S K : Nat} (h : S < K) (h2 : K ≤ 16) : -9223372036854775808 ≤ (S : Int) + K ∧ (S : Int) + K ≤ 9223372036854775807 := by omega
set_option maxRecDepth 100000 in
set_option maxHeartbeats 1600000 in
theorem spec_TestStates (la ha n p q t : Nat) (acts : List (List Int)) (va : Value) (w : World) (hok : MoOk n p q acts) (ht : t < 16) (hA : SlLL la ha w va acts) (hha : ha ≤ w.heap.size) (hm : acts.length ≤ 1048576) (hm2 : ∀ x ∈ acts, x.length ≤ 1048576) :
    Calls Tryd.prog 81 #[aggMo (⟨(n : Int), (p : Int), (q : Int), acts⟩ : Mo) va, .int .i64 t] w fun e w' => e = .returned (.int .i64 ((tstT (⟨(n : Int), (p : Int), (q : Int), acts⟩ : Mo) t n : Nat) : Int)) ∧ Below w.heap.size w w' := by
  obtain ⟨sa, sc, rfl, _, hmc⟩ := hA.shape
  clear hmc
  have hn5 := hok.n5
  have hmod := hok.mod
  have HMV := Lib.hid (spec_ModelValid la ha (⟨(n : Int), (p : Int), (q : Int), acts⟩ : Mo) (.slice sa acts.length sc))
  rw [hmod] at HMV
  have HTV : Hid (∀ w, Calls Tryd.prog 52 #[.int .i64 (t : Nat)] w fun e w' => e = .returned (.bool true) ∧ w = w') := Lib.hid fun w => (specTestValid_any (t : Int) w).mono (by rintro e _ ⟨rfl, rfl⟩; exact ⟨by simp [inB]; omega, rfl⟩)
  have HOK := Lib.hid hok
  obtain ⟨gM, hgM⟩ : ∃ gM, gM = w.heap.size := ⟨_, rfl⟩
  obtain ⟨w0, hw0⟩ : ∃ w0, w0 = w.alloc (.cells #[.int .i64 n, .int .i64 p, .int .i64 q, .slice sa acts.length sc] 25) := ⟨_, rfl⟩
  obtain ⟨hb0, KB_, hs0⟩ := box_facts3 hw0
  have KB := Lib.hid KB_
  have HB := Lib.hid hb0
  have HA := Lib.hid (hA.below hb0 hha)
  have HM2 := Lib.hid hm2
  have HW := Lib.hid hw0
  rw [← hgM] at KB
  have HGM := Lib.hid hgM
  clear hA hm2 hb0 KB_ hw0 hgM hok hmod
  have hgl := KB.out.lt
  have k0 := KB.out.cell 0
  have k1 := KB.out.cell 1
  have k2 := KB.out.cell 2
  have k3 := KB.out.cell 3
  go_enter Tryd.func81, Tryd.ntmps81
  go_upto_region 1 with (rw [← HW.out])
  try rw [← HW.out]
  rw [← HGM.out]
  go_wp2_with fail
  refine (HMV.out w0 HA.out (by omega) hm HM2.out).mono ?_
  rintro e w2 ⟨rfl, hb2⟩
  clear k0 k1 k2 k3 HMV
  have hs2 := hb2.size
  have KR := Lib.hid (KB.out.below hb2 hgl)
  replace HB := Lib.hid (HB.out.trans (hb2.mono (by omega)))
  replace HA := Lib.hid (HA.out.below hb2 (by omega))
  clear hb2 KB
  have hgl2 := KR.out.lt
  go_wp2_with (go_at_call 52; refine (HTV.out _).mono ?_; rintro e w' ⟨rfl, rfl⟩)
  go_loopw [5, 6] (fun ov iv wr => ∃ k : Nat, iv = .int .i64 k ∧ k ≤ n ∧ ov = .int .i64 ((tstT (⟨(n : Int), (p : Int), (q : Int), acts⟩ : Mo) t k : Nat) : Int) ∧ Hid (Below w2.heap.size w2 wr)) (fun _ i _ => n - (intOf i).toNat)
  case atStart => exact ⟨0, rfl, by omega, rfl, Lib.hid (Below.refl _ _)⟩
  case round =>
    obtain ⟨k, rfl, hk, rfl, HQ⟩ := hrel
    have hsr := HQ.out.size
    have KW := Lib.hid (KR.out.below HQ.out hgl2)
    have k0 := KW.out.cell 0
    by_cases hlt : k < n
    · have hd : decide ((k : Int) < (n : Int)) = true := decide_eq_true (by omega)
      have k1 := KW.out.cell 1
      have k2 := KW.out.cell 2
      have k3 := KW.out.cell 3
      have HAT := Lib.hid (spec_AtomOf la ha n p q k acts (.slice sa acts.length sc) wr HOK.out hlt (HA.out.below HQ.out (by omega)) (by omega) hm HM2.out)
      have hat4 := atomN_lt (⟨(n : Int), (p : Int), (q : Int), acts⟩ : Mo) k
      have hpl : 2 ^ k ≤ 16 := Nat.pow_le_pow_right (n := 2) (by omega) (show k ≤ 4 by omega)
      have hpw := pow_wrap (k := k) (by omega)
      have hlt5 := tstT_lt (⟨(n : Int), (p : Int), (q : Int), acts⟩ : Mo) t k
      have HST : Hid (tstT (⟨(n : Int), (p : Int), (q : Int), acts⟩ : Mo) t (k + 1) = if t.testBit (atomN (⟨(n : Int), (p : Int), (q : Int), acts⟩ : Mo) k) then tstT (⟨(n : Int), (p : Int), (q : Int), acts⟩ : Mo) t k + 2 ^ k else tstT (⟨(n : Int), (p : Int), (q : Int), acts⟩ : Mo) t k) := Lib.hid (by
        rw [tstT]
        split
        · exact or_pow hlt5
        · rfl)
      obtain ⟨A, hA⟩ : ∃ A, A = atomN (⟨(n : Int), (p : Int), (q : Int), acts⟩ : Mo) k := ⟨_, rfl⟩
      rw [← hA] at HAT hat4 HST
      obtain ⟨S, hS⟩ : ∃ S, S = tstT (⟨(n : Int), (p : Int), (q : Int), acts⟩ : Mo) t k := ⟨_, rfl⟩
      rw [← hS] at HST hlt5 ⊢
      have HBI := Lib.hid (l1BitG t A (by omega) (by omega))
      obtain ⟨K, hK⟩ : ∃ K, K = 2 ^ k := ⟨_, rfl⟩
      rw [← hK] at hpw HST hlt5 hpl
      clear hA hS hK
      cases hb : t.testBit A with
      | false =>
        have HN : Hid (tstT (⟨(n : Int), (p : Int), (q : Int), acts⟩ : Mo) t (k + 1) = S) := Lib.hid (by rw [HST.out, hb]; simp)
        have hbi : bitI t A = 0 := by simp [bitI, hb]
        rw [hbi] at HBI
        clear hb hbi HST
        go_wp2_with fail
        refine HAT.out.mono ?_
        rintro e wx ⟨rfl, hbx⟩
        have HQ2 := Lib.hid (HQ.out.trans (hbx.mono (by omega)))
        clear hbx k0 k1 k2 k3 HAT
        go_wp2_with fail
        refine (HBI.out _).mono ?_
        rintro e _ ⟨rfl, rfl⟩
        go_wp2
        go_roundw
        case rel => exact ⟨k + 1, by go_num, by omega, by rw [HN.out], HQ2⟩
        case measure => simp [intOf]; omega
      | true =>
        have HN : Hid (((tstT (⟨(n : Int), (p : Int), (q : Int), acts⟩ : Mo) t (k + 1) : Nat) : Int) = (S : Int) + (K : Int)) := Lib.hid (by rw [HST.out, hb]; simp)
        have hbi : bitI t A = 1 := by simp [bitI, hb]
        have hsk := sk_bd hlt5 hpl
        rw [hbi] at HBI
        clear hb hbi HST
        go_wp2_with fail
        refine HAT.out.mono ?_
        rintro e wx ⟨rfl, hbx⟩
        have HQ2 := Lib.hid (HQ.out.trans (hbx.mono (by omega)))
        clear hbx k0 k1 k2 k3 HAT
        go_wp2_with fail
        refine (HBI.out _).mono ?_
        rintro e _ ⟨rfl, rfl⟩
        go_wp2
        go_roundw
        case rel => exact ⟨k + 1, by go_num, by omega, (congrArg (Value.int .i64) ((IntWalk.wrap64_in _ hsk).trans HN.out.symm)), HQ2⟩
        case measure => simp [intOf]; omega
    · obtain rfl : k = n := by omega
      have hd : decide ((k : Int) < (k : Int)) = false := by simp
      have HBF := Lib.hid (HB.out.trans (HQ.out.mono (by omega)))
      go_wp2
      go_ret
      exact ⟨rfl, HBF.out⟩
end Go.Proofs.YtoondakdjhhehaaDoor
