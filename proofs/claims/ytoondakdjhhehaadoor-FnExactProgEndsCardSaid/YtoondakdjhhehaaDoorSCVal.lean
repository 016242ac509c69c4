/-
  Texts of walks and plain lemmas for this seat; no condition.
-/
import Derived.Test.YtoondakdjhhehaaDoorCVal
import Derived.Test.YtoondakdjhhehaaDoorGC
import Derived.Laws.StructEq
namespace Go.Proofs.YtoondakdjhhehaaDoor
open Go.RowKit

set_option maxRecDepth 100000 in
set_option maxHeartbeats 3200000 in
theorem spec_CodeValid (lo hi : Nat) (v : Value) (xs : List In3) (w : World) (hx : SlC lo hi w v xs) (hhi : hi ≤ w.heap.size) (hm : xs.length ≤ 1048576) :
    Calls Tryd.prog 16 #[v] w fun e w' => e = .returned (.bool (codeV xs)) ∧ Below w.heap.size w w' := by
  obtain ⟨a, cap, rfl, hcap, hcm⟩ := hx.shape
  have HX := Lib.hid hx
  clear hx hcm
  go_enter Tryd.func16, Tryd.ntmps16
  go_wp2
  go_loopw [3] (fun i wr => ∃ k : Nat, k ≤ xs.length ∧ i = .int .i64 k ∧ Hid (∀ j (h : j < xs.length), j < k → insB xs.length xs[j] = true) ∧ Below w.heap.size w wr) (fun i _ => xs.length - (intOf i).toNat)
  case atStart => exact ⟨0, by omega, rfl, Lib.hid (by omega), Below.refl _ _⟩
  case round =>
    obtain ⟨k, hk, rfl, HN, hb⟩ := hrel
    have hsz := hb.size
    have HBe := Lib.hid hb
    by_cases hlt : k < xs.length
    · obtain ⟨b, off, rfl, _, hbh, hbs, q0, q1, q2⟩ := (HX.out.below hb hhi).get k hlt
      clear hb
      have HG := Lib.hid (fun hi : insB xs.length xs[k] = true => (show ∀ j (h : j < xs.length), j < k + 1 → insB xs.length xs[j] = true from fun j h hj => (by
        rcases Nat.lt_or_ge j k with h' | h'
        · exact HN.out j h h'
        · have e : j = k := by omega
          subst e
          exact hi)))
      have HF := Lib.hid (fun hi : insB xs.length xs[k] = false => codeV_bad hlt hi)
      clear HN
      obtain ⟨x, hxk⟩ : ∃ x, x = xs[k] := ⟨_, rfl⟩
      rw [← hxk] at q0 q1 q2 HG HF
      clear hxk
      obtain ⟨kd, ar, tt⟩ := x
      simp only at q0 q1 q2
      have hgo : inB tt 0 ((xs.length : Int) - 1) = false ∨ inB tt 0 ((xs.length : Int) - 1) = true := by cases inB tt 0 ((xs.length : Int) - 1) <;> simp
      have hki : (kd = 0 ∧ inB ar 16 18 = true ∧ tt = 0) ∨ (kd = 0 ∧ inB ar 16 18 = true ∧ ¬ tt = 0) ∨ (kd = 0 ∧ inB ar 16 18 = false) ∨ (kd = 1 ∧ inB ar 0 15 = true) ∨ (kd = 1 ∧ inB ar 0 15 = false) ∨ (kd = 2 ∧ ar = 0) ∨ (kd = 2 ∧ ¬ ar = 0) ∨ (kd = 3 ∧ ar = 0 ∧ tt = 0) ∨ (kd = 3 ∧ ar = 0 ∧ ¬ tt = 0) ∨ (kd = 3 ∧ ¬ ar = 0) ∨ (¬ kd = 0 ∧ ¬ kd = 1 ∧ ¬ kd = 2 ∧ ¬ kd = 3) := by
        cases inB ar 16 18 <;> cases inB ar 0 15 <;> simp <;> omega
      have HI : Hid (insB xs.length ⟨kd, ar, tt⟩ = if kd = 0 then inB ar 16 18 && decide (tt = 0) else if kd = 1 then inB ar 0 15 && inB tt 0 ((xs.length : Int) - 1) else if kd = 2 then decide (ar = 0) && inB tt 0 ((xs.length : Int) - 1) else decide (kd = 3) && decide (ar = 0) && decide (tt = 0)) := Lib.hid rfl
      rw [HI.out] at HG HF
      clear HI
      rcases hgo with g1 | g1 <;> rcases hki with ⟨rfl, c1, c2⟩ | ⟨rfl, c1, c2⟩ | ⟨rfl, c1⟩ | ⟨rfl, c1⟩ | ⟨rfl, c1⟩ | ⟨rfl, c1⟩ | ⟨rfl, c1⟩ | ⟨rfl, c1, c2⟩ | ⟨rfl, c1, c2⟩ | ⟨rfl, c1⟩ | ⟨c1, c2, c3, c4⟩
      all_goals try subst c2
      all_goals try subst c1
      all_goals try omega
      all_goals try (have d1 : (ar == 0) = false := by simpa using c1)
      all_goals try (have d2 : (tt == 0) = false := by simpa using c2)
      all_goals try (have f1 : (kd == 0) = false := by simpa using c1)
      all_goals try (have f2 : (kd == 1) = false := by simpa using c2)
      all_goals try (have f3 : (kd == 2) = false := by simpa using c3)
      all_goals try (have f4 : (kd == 3) = false := by simpa using c4)
      all_goals first
        | (have HV := Lib.hid (HG.out (by simp_all; try omega))
           clear HG HF
           go_wp2_with (first | (go_at_call 44; refine (l1In_any _ _ _ _).mono ?_; rintro e w' ⟨rfl, rfl⟩) | (go_at_call 52; refine (specTestValid_any _ _).mono ?_; rintro e w' ⟨rfl, rfl⟩))
           go_roundw
           case rel => exact ⟨k + 1, by omega, by go_num, HV, HBe.out.alloc (by omega) _⟩
           case measure => simp [intOf]; omega)
        | (have HV := Lib.hid (HF.out (by simp_all; try omega))
           clear HG HF
           go_wp2_with (first | (go_at_call 44; refine (l1In_any _ _ _ _).mono ?_; rintro e w' ⟨rfl, rfl⟩) | (go_at_call 52; refine (specTestValid_any _ _).mono ?_; rintro e w' ⟨rfl, rfl⟩))
           go_ret
           exact ⟨ret_bool HV.out.symm, HBe.out.alloc (by omega) _⟩)

    · obtain rfl : k = xs.length := by omega
      by_cases h1 : 1 ≤ xs.length
      · by_cases h2 : xs.length ≤ 40
        · have hin : inB (xs.length : Int) 1 40 = true := by simp [inB]; omega
          have HE := Lib.hid (codeV_good h1 h2 (fun j hj => HN.out j hj hj))
          obtain ⟨b, off, rfl, _, hbh, hbs, q0, q1, q2⟩ := (HX.out.below hb hhi).get (xs.length - 1) (by omega)
          rw [insAt_get (by omega : xs.length - 1 < xs.length)] at HE
          obtain ⟨x, hxk⟩ : ∃ x, x = xs[xs.length - 1] := ⟨_, rfl⟩
          rw [← hxk] at q0 q1 q2 HE
          clear hxk HN hb
          obtain ⟨kd, ar, tt⟩ := x
          simp only at q0 HE
          clear q1 q2
          go_wp2_with (go_at_call 44; refine (l1In_any _ _ _ _).mono ?_; rintro e w' ⟨rfl, rfl⟩)
          go_ret
          exact ⟨ret_bool HE.out.symm, HBe.out⟩
        · have hin : inB (xs.length : Int) 1 40 = false := by rw [Bool.eq_false_iff]; simp [inB]; omega
          clear HN hb
          go_wp2_with (go_at_call 44; refine (l1In_any _ _ _ _).mono ?_; rintro e w' ⟨rfl, rfl⟩)
          go_ret
          exact ⟨ret_bool (by simp [codeV, hin]), HBe.out⟩
      · have hin : inB (xs.length : Int) 1 40 = false := by rw [Bool.eq_false_iff]; simp [inB]; omega
        clear HN hb
        go_wp2_with (go_at_call 44; refine (l1In_any _ _ _ _).mono ?_; rintro e w' ⟨rfl, rfl⟩)
        go_ret
        exact ⟨ret_bool (by simp [codeV, hin]), HBe.out⟩
end Go.Proofs.YtoondakdjhhehaaDoor
