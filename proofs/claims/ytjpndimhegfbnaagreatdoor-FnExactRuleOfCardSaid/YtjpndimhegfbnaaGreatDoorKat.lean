/-
  Texts of walks and plain lemmas for this seat; no condition.
-/
import Derived.Test.YtjpndimhegfbnaaGreatDoorT3
import Derived.Test.YtjpndimhegfbnaaGreatDoorL1In
namespace Go.Proofs.YtjpndimhegfbnaaGreatDoor
open Go.RowKit

def takesI (s : Int) : Int := if s = 19 ∨ s = 20 then 2 else if s = 21 then 1 else 0
theorem takesI_else (s : Int) (h1 : ¬ s = 19) (h2 : ¬ s = 20) (h3 : ¬ s = 21) : takesI s = 0 := by simp [takesI, h1, h2, h3]
theorem takesI_bd (s : Int) : 0 ≤ takesI s ∧ takesI s ≤ 2 := by unfold takesI; split <;> (try split) <;> omega
theorem ret_int {k : IntKind} {a b : Int} (h : a = b) : Ending.returned (.int k a) = .returned (.int k b) := by rw [h]

/-- How many expressions there are behind the steps, d before them; none if a step lacks what it takes. -/
def kdep : List Int → Int → Option Int
  | [], d => some d
  | s :: r, d => if s < 0 ∨ 21 < s ∨ d < takesI s then none else kdep r (d + 1 - takesI s)
def katV (e : List Int) : Bool := decide (1 ≤ e.length) && decide (e.length ≤ 40) && (kdep e 0 == some 1)

theorem kdep_bad (xs : List Int) (k : Nat) (d : Int) (h : k < xs.length) (hb : xs[k] < 0 ∨ 21 < xs[k] ∨ d < takesI xs[k]) : kdep (xs.drop k) d = none := by
  rw [List.drop_eq_getElem_cons h, kdep, if_pos hb]
theorem kdep_good (xs : List Int) (k : Nat) (d : Int) (h : k < xs.length) (hb : ¬ (xs[k] < 0 ∨ 21 < xs[k] ∨ d < takesI xs[k])) : kdep (xs.drop k) d = kdep (xs.drop (k + 1)) (d + 1 - takesI xs[k]) := by
  rw [List.drop_eq_getElem_cons h, kdep, if_neg hb]
theorem kdep_end (xs : List Int) (k : Nat) (d : Int) (h : xs.length ≤ k) : kdep (xs.drop k) d = some d := by
  rw [List.drop_of_length_le h]; rfl
theorem katV_none {xs : List Int} (h : kdep xs 0 = none) : katV xs = false := by simp [katV, h]

theorem impl_takes (s : Int) (w : World) :
    Calls Tryz.prog 103 #[.int .i64 s] w fun e w' => e = .returned (.int .i64 (takesI s)) ∧ w = w' := by
  by_cases h1 : s = 19
  · subst h1
    go_enter Tryz.func103, Tryz.ntmps103
    go_wp2
    go_ret
    exact ⟨rfl, rfl⟩
  · by_cases h2 : s = 20
    · subst h2
      go_enter Tryz.func103, Tryz.ntmps103
      go_wp2
      go_ret
      exact ⟨rfl, rfl⟩
    · have b1 : (s == 19) = false := by simpa using h1
      have b2 : (s == 20) = false := by simpa using h2
      by_cases h3 : s = 21
      · subst h3
        go_enter Tryz.func103, Tryz.ntmps103
        go_wp2
        go_ret
        exact ⟨rfl, rfl⟩
      · have b3 : (s == 21) = false := by simpa using h3
        have hr := Lib.hid (takesI_else s h1 h2 h3)
        clear h1 h2 h3
        go_enter Tryz.func103, Tryz.ntmps103
        go_wp2
        go_ret
        exact ⟨ret_int (by rw [hr.out]), rfl⟩

theorem spec_takes (s : Int) (w : World) :
    Calls Tryz.prog 78 #[.int .i64 s] w fun e w' => e = .returned (.int .i64 (takesI s)) ∧ w = w' := by
  by_cases h1 : s = 19
  · subst h1
    go_enter Tryz.func78, Tryz.ntmps78
    go_wp2
    go_ret
    exact ⟨rfl, rfl⟩
  · by_cases h2 : s = 20
    · subst h2
      go_enter Tryz.func78, Tryz.ntmps78
      go_wp2
      go_ret
      exact ⟨rfl, rfl⟩
    · have b1 : (s == 19) = false := by simpa using h1
      have b2 : (s == 20) = false := by simpa using h2
      by_cases h3 : s = 21
      · subst h3
        go_enter Tryz.func78, Tryz.ntmps78
        go_wp2
        go_ret
        exact ⟨rfl, rfl⟩
      · have b3 : (s == 21) = false := by simpa using h3
        have hr := Lib.hid (takesI_else s h1 h2 h3)
        clear h1 h2 h3
        go_enter Tryz.func78, Tryz.ntmps78
        go_wp2
        go_ret
        exact ⟨ret_int (by rw [hr.out]), rfl⟩

set_option maxHeartbeats 800000 in
theorem impl_KatValid (lo hi : Nat) (v : Value) (xs : List Int) (w : World) (hx : SlI lo hi w v xs) (hm : xs.length ≤ 1048576) :
    Calls Tryz.prog 75 #[v] w fun e w' => e = .returned (.bool (katV xs)) ∧ w = w' := by
  obtain ⟨a, cap, rfl, hcap, hcm, hc⟩ := hx.open
  clear hx hcm hcap
  by_cases h1 : 1 ≤ xs.length
  · by_cases h2 : xs.length ≤ 40
    · go_enter Tryz.func75, Tryz.ntmps75
      go_wp2
      go_loop [3, 16] (fun c i => ∃ (k : Nat) (d : Int), k ≤ xs.length ∧ i = .int .i64 k ∧ c = .int .i64 d ∧ 0 ≤ d ∧ d ≤ k ∧ Hid (kdep (xs.drop k) d = kdep xs 0)) (fun _ i => xs.length - (intOf i).toNat)
      case atStart => exact ⟨0, 0, by omega, rfl, rfl, by omega, by omega, Lib.hid rfl⟩
      case round =>
        obtain ⟨k, d, hk, rfl, rfl, hd0, hdk, HT⟩ := hrel
        by_cases hlt : k < xs.length
        · obtain ⟨b, off, rfl, _, _, _, hcell⟩ := hc k hlt
          clear hc
          obtain ⟨t0, t1⟩ := takesI_bd xs[k]
          by_cases hb1 : xs[k] < 0
          · have HN := Lib.hid (kdep_bad xs k d hlt (.inl hb1))
            go_wp2
            go_ret
            exact ⟨ret_bool (katV_none (by rw [← HT.out, HN.out])).symm, rfl⟩
          · by_cases hb2 : 21 < xs[k]
            · have HN := Lib.hid (kdep_bad xs k d hlt (.inr (.inl hb2)))
              go_wp2
              go_ret
              exact ⟨ret_bool (katV_none (by rw [← HT.out, HN.out])).symm, rfl⟩
            · by_cases hb3 : d < takesI xs[k]
              · have HN := Lib.hid (kdep_bad xs k d hlt (.inr (.inr hb3)))
                go_wp2_with (go_at_call 103; refine (impl_takes _ _).mono ?_; rintro e w' ⟨rfl, rfl⟩)
                go_ret
                exact ⟨ret_bool (katV_none (by rw [← HT.out, HN.out])).symm, rfl⟩
              · have HN := Lib.hid (kdep_good xs k d hlt (by omega))
                go_wp2_with (go_at_call 103; refine (impl_takes _ _).mono ?_; rintro e w' ⟨rfl, rfl⟩)
                go_round
                case rel => exact ⟨k + 1, d + 1 - takesI xs[k], by omega, by go_num, by first | go_num | (congr 1; omega), by omega, by omega, Lib.hid (by rw [← HT.out, HN.out])⟩
                case measure => simp [intOf]; omega
        · have HN := Lib.hid (kdep_end xs k d (by omega))
          go_wp2
          go_ret
          exact ⟨ret_bool (by simp [katV, ← HT.out, HN.out, h1, h2]), rfl⟩
    · go_enter Tryz.func75, Tryz.ntmps75
      go_wp2
      go_ret
      exact ⟨ret_bool (by simp [katV]; omega), rfl⟩
  · go_enter Tryz.func75, Tryz.ntmps75
    go_wp2
    go_ret
    exact ⟨ret_bool (by simp [katV]; omega), rfl⟩

theorem inB_21 (x : Int) : inB x 0 21 = true ↔ ¬ (x < 0 ∨ 21 < x) := by simp [inB]
theorem inB_21f (x : Int) : inB x 0 21 = false ↔ (x < 0 ∨ 21 < x) := by simp [inB]; omega

set_option maxHeartbeats 800000 in
theorem spec_KatValid (lo hi : Nat) (v : Value) (xs : List Int) (w : World) (hx : SlI lo hi w v xs) (hm : xs.length ≤ 1048576) :
    Calls Tryz.prog 24 #[v] w fun e w' => e = .returned (.bool (katV xs)) ∧ w = w' := by
  obtain ⟨a, cap, rfl, hcap, hcm, hc⟩ := hx.open
  clear hx hcm hcap
  go_enter Tryz.func24, Tryz.ntmps24
  go_wp2
  go_loop [3, 4] (fun c i => ∃ (k : Nat) (d : Int), k ≤ xs.length ∧ i = .int .i64 k ∧ c = .int .i64 d ∧ 0 ≤ d ∧ d ≤ k ∧ Hid (kdep (xs.drop k) d = kdep xs 0)) (fun _ i => xs.length - (intOf i).toNat)
  case atStart => exact ⟨0, 0, by omega, rfl, rfl, by omega, by omega, Lib.hid rfl⟩
  case round =>
    obtain ⟨k, d, hk, rfl, rfl, hd0, hdk, HT⟩ := hrel
    by_cases hlt : k < xs.length
    · obtain ⟨b, off, rfl, _, _, _, hcell⟩ := hc k hlt
      clear hc
      obtain ⟨t0, t1⟩ := takesI_bd xs[k]
      cases hb1 : inB xs[k] 0 21
      · have HN := Lib.hid (kdep_bad xs k d hlt (by have := (inB_21f xs[k]).1 hb1; omega))
        go_wp2_with (go_at_call 69; refine (l1In_any _ _ _ _).mono ?_; rintro e w' ⟨rfl, rfl⟩)
        go_ret
        exact ⟨ret_bool (katV_none (by rw [← HT.out, HN.out])).symm, rfl⟩
      · by_cases hb3 : d < takesI xs[k]
        · have HN := Lib.hid (kdep_bad xs k d hlt (.inr (.inr hb3)))
          go_wp2_with (first | (go_at_call 69; refine (l1In_any _ _ _ _).mono ?_; rintro e w' ⟨rfl, rfl⟩) | (go_at_call 78; refine (spec_takes _ _).mono ?_; rintro e w' ⟨rfl, rfl⟩))
          go_ret
          exact ⟨ret_bool (katV_none (by rw [← HT.out, HN.out])).symm, rfl⟩
        · have HN := Lib.hid (kdep_good xs k d hlt (by have := (inB_21 xs[k]).1 hb1; omega))
          go_wp2_with (first | (go_at_call 69; refine (l1In_any _ _ _ _).mono ?_; rintro e w' ⟨rfl, rfl⟩) | (go_at_call 78; refine (spec_takes _ _).mono ?_; rintro e w' ⟨rfl, rfl⟩))
          go_round
          case rel => exact ⟨k + 1, d + 1 - takesI xs[k], by omega, by go_num, by first | go_num | (congr 1; omega), by omega, by omega, Lib.hid (by rw [← HT.out, HN.out])⟩
          case measure => simp [intOf]; omega
    · have HN := Lib.hid (kdep_end xs k d (by omega))
      obtain rfl : k = xs.length := by omega
      have HK := Lib.hid (show katV xs = (inB xs.length 1 40 && d == 1) by
        simp only [katV, ← HT.out, HN.out, inB]
        rw [Bool.eq_iff_iff]
        simp
        omega)
      cases hb : inB xs.length 1 40
      · go_wp2_with (go_at_call 69; refine (l1In_any _ _ _ _).mono ?_; rintro e w' ⟨rfl, rfl⟩)
        go_ret
        exact ⟨ret_bool (by rw [HK.out, hb]; rfl), rfl⟩
      · go_wp2_with (go_at_call 69; refine (l1In_any _ _ _ _).mono ?_; rintro e w' ⟨rfl, rfl⟩)
        go_ret
        exact ⟨ret_bool (by rw [HK.out, hb]; rfl), rfl⟩
end Go.Proofs.YtjpndimhegfbnaaGreatDoor
