/-
  Texts of walks and plain lemmas for this seat; no condition.
-/
import Derived.Test.YtoondakdjhhehaaDoorCIns
import Derived.Test.YtoondakdjhhehaaDoorGA
namespace Go.Proofs.YtoondakdjhhehaaDoor
open Go.RowKit

theorem codeV_bad {c : List In3} {k : Nat} (h : k < c.length) (hb : insB c.length c[k] = false) : codeV c = false := by
  rw [Bool.eq_false_iff]
  intro he
  have := (codeV_iff.1 he).ins k h
  rw [insAt_get h, hb] at this
  cases this
theorem codeV_good {c : List In3} (h1 : 1 ≤ c.length) (h2 : c.length ≤ 40) (h : ∀ j (hj : j < c.length), insB c.length c[j] = true) : codeV c = decide (2 ≤ (insAt c (c.length - 1)).kind) := by
  rw [Bool.eq_iff_iff, codeV_iff, decide_eq_true_eq]
  exact ⟨fun h => h.last, fun hl => ⟨h1, h2, fun i hi => by rw [insAt_get hi]; exact h i hi, hl⟩⟩

theorem insB_is (n kd ar tt : Int) : insB n ⟨kd, ar, tt⟩ = if kd = 0 then isActB ar && decide (tt = 0) else if kd = 1 then inB ar 0 15 && (decide (0 ≤ tt) && decide (tt < n)) else if kd = 2 then decide (ar = 0) && (decide (0 ≤ tt) && decide (tt < n)) else decide (kd = 3) && decide (ar = 0) && decide (tt = 0) := by
  have h : inB tt 0 (n - 1) = (decide (0 ≤ tt) && decide (tt < n)) := by rw [Bool.eq_iff_iff]; simp [inB]; omega
  unfold insB
  simp only [h]
  rfl

set_option maxRecDepth 100000 in
set_option maxHeartbeats 3200000 in
theorem impl_CodeValid (lo hi : Nat) (v : Value) (xs : List In3) (w : World) (hx : SlC lo hi w v xs) (hhi : hi ≤ w.heap.size) (hm : xs.length ≤ 1048576) :
    Calls Tryd.prog 18 #[v] w fun e w' => e = .returned (.bool (codeV xs)) ∧ Below w.heap.size w w' := by
  obtain ⟨a, cap, rfl, hcap, hcm⟩ := hx.shape
  have HX := Lib.hid hx
  clear hx hcm
  by_cases h1 : 1 ≤ xs.length
  · by_cases h2 : xs.length ≤ 40
    · go_enter Tryd.func18, Tryd.ntmps18
      go_wp2
      go_loopw [18] (fun i wr => ∃ k : Nat, k ≤ xs.length ∧ i = .int .i64 k ∧ Hid (∀ j (h : j < xs.length), j < k → insB xs.length xs[j] = true) ∧ Below w.heap.size w wr) (fun i _ => xs.length - (intOf i).toNat)
      case atStart => exact ⟨0, by omega, rfl, Lib.hid (by omega), Below.refl _ _⟩
      case round =>
        obtain ⟨k, hk, rfl, HN, hb⟩ := hrel
        have hsz := hb.size
        have HBe := Lib.hid hb
        by_cases hlt : k < xs.length
        · obtain ⟨b, off, rfl, _, hbh, hbs, q0, q1, q2⟩ := (HX.out.below hb hhi).get k hlt
          clear hb
          have HG := Lib.hid (fun hi : insB xs.length xs[k] = true => (show ∀ j (h : j < xs.length), j < k + 1 → insB xs.length xs[j] = true from fun j h hj => (by
            rcases Nat.lt_or_ge j k with h' | h'
            · exact HN.out j h h'
            · have e : j = k := by omega
              subst e
              exact hi)))
          have HF := Lib.hid (fun hi : insB xs.length xs[k] = false => codeV_bad hlt hi)
          clear HN
          obtain ⟨x, hxk⟩ : ∃ x, x = xs[k] := ⟨_, rfl⟩
          rw [← hxk] at q0 q1 q2 HG HF
          clear hxk
          obtain ⟨kd, ar, tt⟩ := x
          simp only at q0 q1 q2
          have hgo : (tt < 0) ∨ (0 ≤ tt ∧ (xs.length : Int) ≤ tt) ∨ (0 ≤ tt ∧ tt < (xs.length : Int)) := by omega
          have hki : (kd = 0 ∧ isActB ar = true ∧ tt = 0) ∨ (kd = 0 ∧ isActB ar = true ∧ ¬ tt = 0) ∨ (kd = 0 ∧ isActB ar = false) ∨ (kd = 1 ∧ inB ar 0 15 = true) ∨ (kd = 1 ∧ inB ar 0 15 = false) ∨ (kd = 2 ∧ ar = 0) ∨ (kd = 2 ∧ ¬ ar = 0) ∨ (kd = 3 ∧ ar = 0 ∧ tt = 0) ∨ (kd = 3 ∧ ar = 0 ∧ ¬ tt = 0) ∨ (kd = 3 ∧ ¬ ar = 0) ∨ (¬ kd = 0 ∧ ¬ kd = 1 ∧ ¬ kd = 2 ∧ ¬ kd = 3) := by
            cases isActB ar <;> cases inB ar 0 15 <;> simp <;> omega
          have HI : Hid (insB xs.length ⟨kd, ar, tt⟩ = if kd = 0 then isActB ar && decide (tt = 0) else if kd = 1 then inB ar 0 15 && (decide (0 ≤ tt) && decide (tt < (xs.length : Int))) else if kd = 2 then decide (ar = 0) && (decide (0 ≤ tt) && decide (tt < (xs.length : Int))) else decide (kd = 3) && decide (ar = 0) && decide (tt = 0)) := Lib.hid (insB_is _ _ _ _)
          rw [HI.out] at HG HF
          clear HI
          rcases hgo with g1 | ⟨g1, g2⟩ | ⟨g1, g2⟩ <;> rcases hki with ⟨rfl, c1, c2⟩ | ⟨rfl, c1, c2⟩ | ⟨rfl, c1⟩ | ⟨rfl, c1⟩ | ⟨rfl, c1⟩ | ⟨rfl, c1⟩ | ⟨rfl, c1⟩ | ⟨rfl, c1, c2⟩ | ⟨rfl, c1, c2⟩ | ⟨rfl, c1⟩ | ⟨c1, c2, c3, c4⟩
          all_goals try subst c2
          all_goals try subst c1
          all_goals try omega
          all_goals try (have d1 : (ar == 0) = false := by simpa using c1)
          all_goals try (have d2 : (tt == 0) = false := by simpa using c2)
          all_goals try (have g3 : decide (tt < (xs.length : Int)) = false := decide_eq_false (by omega))
          all_goals try (have g3 : decide (tt < (xs.length : Int)) = true := decide_eq_true (by omega))
          all_goals try (have g4 : decide (0 ≤ tt) = false := decide_eq_false (by omega))
          all_goals try (have f1 : (kd == 0) = false := by simpa using c1)
          all_goals try (have f2 : (kd == 1) = false := by simpa using c2)
          all_goals try (have f3 : (kd == 2) = false := by simpa using c3)
          all_goals try (have f4 : (kd == 3) = false := by simpa using c4)
          all_goals first
            | (have HV := Lib.hid (HG.out (by simp_all; try omega))
               clear HG HF
               go_wp2_with (first | (go_at_call 53; refine (isAct_any _ _).mono ?_; rintro e w' ⟨rfl, rfl⟩) | (go_at_call 54; refine (testValid_any _ _).mono ?_; rintro e w' ⟨rfl, rfl⟩))
               go_roundw
               case rel => exact ⟨k + 1, by omega, by go_num, HV, HBe.out.alloc (by omega) _⟩
               case measure => simp [intOf]; omega)
            | (have HV := Lib.hid (HF.out (by simp_all; try omega))
               clear HG HF
               go_wp2_with (first | (go_at_call 53; refine (isAct_any _ _).mono ?_; rintro e w' ⟨rfl, rfl⟩) | (go_at_call 54; refine (testValid_any _ _).mono ?_; rintro e w' ⟨rfl, rfl⟩))
               go_ret
               exact ⟨ret_bool HV.out.symm, HBe.out.alloc (by omega) _⟩)
        · obtain rfl : k = xs.length := by omega
          have HE := Lib.hid (codeV_good h1 h2 (fun j hj => HN.out j hj hj))
          obtain ⟨b, off, rfl, _, hbh, hbs, q0, q1, q2⟩ := (HX.out.below hb hhi).get (xs.length - 1) (by omega)
          rw [insAt_get (by omega : xs.length - 1 < xs.length)] at HE
          obtain ⟨x, hxk⟩ : ∃ x, x = xs[xs.length - 1] := ⟨_, rfl⟩
          rw [← hxk] at q0 q1 q2 HE
          have hi := HN.out (xs.length - 1) (by omega) (by omega)
          rw [← hxk] at hi
          clear hxk HN hb
          obtain ⟨kd, ar, tt⟩ := x
          have hk := insB_kind hi
          clear hi
          simp only at q0 HE hk
          have e1 : ((xs.length : Int) - 1).toNat = xs.length - 1 := by omega
          have q3 := q0
          rw [← e1] at q3
          clear q1 q2 e1
          rcases hk with rfl | rfl | rfl | rfl
          all_goals
            go_wp2
            go_ret
            exact ⟨ret_bool HE.out.symm, HBe.out⟩
    · go_enter Tryd.func18, Tryd.ntmps18
      go_wp2
      go_ret
      exact ⟨ret_bool (by simp [codeV, inB]; omega), Below.refl _ _⟩
  · go_enter Tryd.func18, Tryd.ntmps18
    go_wp2
    go_ret
    exact ⟨ret_bool (by simp [codeV, inB]; omega), Below.refl _ _⟩
end Go.Proofs.YtoondakdjhhehaaDoor
