/-
  Texts of walks and plain lemmas for this seat; no condition.
-/
import Derived.Test.YtadihfjmgckdaaaGreatDoorIRows6
import Derived.Test.YtadihfjmgckdaaaGreatDoorGA
import Derived.Deep.DeepCutAuto
import Derived.Deep.RegionHeld3
import Derived.Deep.DrawnRows
namespace Go.Proofs.YtadihfjmgckdaaaGreatDoor
open Go.RowKit

theorem box_facts3 {w w0 : World} {o : Obj} (h : w0 = w.alloc o) : Below w.heap.size w w0 ∧ Blk w.heap.size o w0 ∧ w.heap.size + 1 ≤ w0.heap.size := by
  subst h
  exact ⟨(Below.refl _ _).alloc (Nat.le_refl _) _, Blk.new w o, by simp⟩
theorem bit_val {set k : Nat} (hs : set < 4611686018427387904) : bits .and .i64 ((set : Int) / 2 ^ k) 1 = if set.testBit k then 1 else 0 := by
  have h1 : ((set : Int) / 2 ^ k) = ((set / 2 ^ k : Nat) : Int) := by push_cast; rfl
  have h2 : set / 2 ^ k < 4611686018427387904 := Nat.lt_of_le_of_lt (Nat.div_le_self _ _) hs
  rw [h1, show (1 : Int) = ((1 : Nat) : Int) from rfl, bits64_and _ _ h2 (by omega), Nat.testBit_eq_decide_div_mod_eq, Nat.and_one_is_mod]
  have := Nat.mod_two_eq_zero_or_one (set / 2 ^ k)
  rcases this with h | h <;> simp [h]
theorem atomN_val (M : Mo) (s : Nat) : atomN M s = (if M.p.toNat.testBit s then 1 else 0) + 2 * (if M.q.toNat.testBit s then 1 else 0) := by
  unfold atomN
  rw [Nat.shiftRight_eq_div_pow, Nat.shiftRight_eq_div_pow, Nat.testBit_eq_decide_div_mod_eq, Nat.testBit_eq_decide_div_mod_eq]
  have h1 := Nat.mod_two_eq_zero_or_one (M.p.toNat / 2 ^ s)
  have h2 := Nat.mod_two_eq_zero_or_one (M.q.toNat / 2 ^ s)
  rcases h1 with h1 | h1 <;> rcases h2 with h2 | h2 <;> simp [h1, h2]
theorem atom_any (M : Mo) (va : Value) (s p q : Nat) (w : World) (hp : M.p = p) (hq : M.q = q) (hp2 : p < 1099511627776) (hq2 : q < 1099511627776) (hs : s ≤ 60) :
    Calls Tryz.prog 167 #[aggMo M va, .int .i64 s] w fun e w' => e = .returned (.int .i64 ((atomN M s : Nat) : Int)) ∧ Below w.heap.size w w' := by
  obtain ⟨n, P, Q, acts⟩ := M
  simp only at hp hq
  subst hp hq
  have HBA := Lib.hid ((Below.refl w.heap.size w).alloc (Nat.le_refl _) (.cells #[.int .i64 n, .int .i64 (p : Int), .int .i64 (q : Int), va] 31))
  have HV := Lib.hid (atomN_val ⟨n, (p : Int), (q : Int), acts⟩ s)
  have b1 := bit_val (set := p) (k := s) (by omega)
  have b2 := bit_val (set := q) (k := s) (by omega)
  have o1 : bits .or .i64 1 2 = 3 := by decide +kernel
  have o2 : bits .or .i64 0 2 = 2 := by decide +kernel
  have o3 : bits .or .i64 1 0 = 1 := by decide +kernel
  have o4 : bits .or .i64 0 0 = 0 := by decide +kernel
  cases h1 : p.testBit s <;> cases h2 : q.testBit s
  all_goals
    rw [h1] at b1
    rw [h2] at b2
    simp only [Bool.false_eq_true, if_false, if_true] at b1 b2
    have HE := HV.out
    simp only [Int.toNat_natCast, h1, h2, Bool.false_eq_true, if_false, if_true] at HE
    replace HE := Lib.hid HE
    clear h1 h2
    go_enter Tryz.func167, Tryz.ntmps167
    go_wp2
    go_region_held3 (fun w' => w'.cell? ⟨w.heap.size, 1, none⟩ = some (.int .i64 (p : Int)) ∧ w'.cell? ⟨w.heap.size, 2, none⟩ = some (.int .i64 (q : Int))) (go_keep) (fail)
    go_wp2
    go_ret
    exact ⟨ret_int (by rw [HE.out]; decide +kernel), Below.drew HBA.out⟩

theorem testBit_hb (t k : Nat) : hb t k = t.testBit k := by
  unfold hb
  rw [Nat.shiftRight_eq_div_pow, Nat.testBit_eq_decide_div_mod_eq]
  rw [Bool.eq_iff_iff]
  simp
/-- The states below k in which a test holds. -/
def tstT (M : Mo) (t : Nat) : Nat → Nat
  | 0 => 0
  | k + 1 => if t.testBit (atomN M k) then tstT M t k ||| 2 ^ k else tstT M t k
theorem tstT_bit (M : Mo) (t j : Nat) : ∀ k, (tstT M t k).testBit j = true ↔ j < k ∧ t.testBit (atomN M j) = true
  | 0 => by simp [tstT]
  | k + 1 => by
    have ih := tstT_bit M t j k
    rw [tstT]
    split
    · rename_i hb
      rw [Nat.testBit_or, Bool.or_eq_true, ih, Nat.testBit_two_pow, decide_eq_true_eq]
      constructor
      · rintro (⟨h1, h2⟩ | rfl)
        · exact ⟨by omega, h2⟩
        · exact ⟨by omega, hb⟩
      · rintro ⟨h1, h2⟩
        by_cases hj : j = k
        · exact .inr hj.symm
        · exact .inl ⟨by omega, h2⟩
    · rename_i hb
      rw [ih]
      constructor
      · rintro ⟨h1, h2⟩; exact ⟨by omega, h2⟩
      · rintro ⟨h1, h2⟩
        by_cases hj : j = k
        · subst hj; exact absurd h2 hb
        · exact ⟨by omega, h2⟩
theorem tstT_lt (M : Mo) (t : Nat) : ∀ k, tstT M t k < 2 ^ k
  | 0 => by simp [tstT]
  | k + 1 => by
    have ih := tstT_lt M t k
    have h2 : 2 ^ k < 2 ^ (k + 1) := Nat.pow_lt_pow_right (by omega) (by omega)
    rw [tstT]
    split
    · exact Nat.or_lt_two_pow (by omega) h2
    · omega
set_option maxHeartbeats 1600000 in
theorem testStates_any (M : Mo) (va : Value) (t n p q : Nat) (w : World) (hn : M.n = n) (hn5 : n ≤ 5) (hp : M.p = p) (hq : M.q = q) (hp2 : p < 1099511627776) (hq2 : q < 1099511627776) (ht : t < 16) :
    Calls Tryz.prog 143 #[aggMo M va, .int .i64 t] w fun e w' => e = .returned (.int .i64 ((tstT M t n : Nat) : Int)) ∧ Below w.heap.size w w' := by
  obtain ⟨n', P, Q, acts⟩ := M
  simp only at hn hp hq
  subst hn hp hq
  obtain ⟨w0, hw0⟩ : ∃ w0, w0 = w.alloc (.cells #[.int .i64 n, .int .i64 (p : Int), .int .i64 (q : Int), va] 31) := ⟨_, rfl⟩
  obtain ⟨hb0, KB_, hs0⟩ := box_facts3 hw0
  have KB := Lib.hid KB_
  have HB := Lib.hid hb0
  have HW := Lib.hid hw0
  clear hb0 KB_ hw0
  have k0 := KB.out.cell 0
  go_enter Tryz.func143, Tryz.ntmps143
  go_upto_region 3 with (rw [← HW.out])
  try rw [← HW.out]
  go_loopw [5, 9] (fun ov iv wr => ∃ k : Nat, iv = .int .i64 k ∧ k ≤ n ∧ ov = .int .i64 ((tstT (⟨(n : Int), (p : Int), (q : Int), acts⟩ : Mo) t k : Nat) : Int) ∧ Hid (Below w0.heap.size w0 wr)) (fun _ i _ => n - (intOf i).toNat)
  case atStart => exact ⟨0, rfl, by omega, rfl, Lib.hid (Below.refl _ _)⟩
  case round =>
    clear k0
    obtain ⟨k, rfl, hk, rfl, HQ⟩ := hrel
    have KR := Lib.hid (KB.out.below HQ.out KB.out.lt)
    have hsr := HQ.out.size
    have k0 := KR.out.cell 0
    have k1 := KR.out.cell 1
    have k2 := KR.out.cell 2
    have k3 := KR.out.cell 3
    by_cases hlt : k < n
    · have hpw := pow_wrap (k := k) (by omega)
      have HLT := Lib.hid (Nat.lt_of_lt_of_le (tstT_lt (⟨(n : Int), (p : Int), (q : Int), acts⟩ : Mo) t k) (Nat.pow_le_pow_right (n := 2) (by omega) (show k ≤ 5 by omega)))
      have HPL := Lib.hid (Nat.pow_lt_pow_right (a := 2) (by omega) (show k < 6 by omega))
      have HOR := Lib.hid (bits64_or (tstT (⟨(n : Int), (p : Int), (q : Int), acts⟩ : Mo) t k) (2 ^ k) (by have := HLT.out; omega) (by have := HPL.out; omega))
      go_wp2_with fail
      refine (atom_any (⟨(n : Int), (p : Int), (q : Int), acts⟩ : Mo) va k p q wr rfl rfl hp2 hq2 (by omega)).mono ?_
      rintro e w2 ⟨rfl, hb2⟩
      have HB2 := Lib.hid (HQ.out.trans (hb2.mono hsr))
      clear hb2
      go_wp2_with fail
      refine (holds_any t (atomN (⟨(n : Int), (p : Int), (q : Int), acts⟩ : Mo) k) ht (atomN_lt (⟨(n : Int), (p : Int), (q : Int), acts⟩ : Mo) k) w2).mono ?_
      rintro e _ ⟨rfl, rfl⟩
      rw [testBit_hb]
      cases hb : t.testBit (atomN (⟨(n : Int), (p : Int), (q : Int), acts⟩ : Mo) k)
      · have HN : Hid (tstT (⟨(n : Int), (p : Int), (q : Int), acts⟩ : Mo) t (k + 1) = tstT (⟨(n : Int), (p : Int), (q : Int), acts⟩ : Mo) t k) := Lib.hid (by rw [tstT, hb]; simp)
        go_wp2
        go_roundw
        case rel => exact ⟨k + 1, by go_num, by omega, by rw [HN.out], Lib.hid HB2.out⟩
        case measure => simp [intOf]; omega
      · have HN : Hid (tstT (⟨(n : Int), (p : Int), (q : Int), acts⟩ : Mo) t (k + 1) = tstT (⟨(n : Int), (p : Int), (q : Int), acts⟩ : Mo) t k ||| 2 ^ k) := Lib.hid (by rw [tstT, hb]; simp)
        go_wp2
        go_roundw
        case rel => exact ⟨k + 1, by go_num, by omega, by rw [HN.out, ← HOR.out]; push_cast; rfl, Lib.hid HB2.out⟩
        case measure => simp [intOf]; omega
    · obtain rfl : k = n := by omega
      go_wp2
      go_ret
      exact ⟨rfl, HB.out.trans (HQ.out.mono (by omega))⟩
end Go.Proofs.YtadihfjmgckdaaaGreatDoor
