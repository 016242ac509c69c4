/-
  Texts of walks and plain lemmas for this seat; no condition.
-/
import Derived.Test.YtkdgpbnngkljkaaDoorRJour
import Derived.Test.YtkdgpbnngkljkaaDoorRJour2
import Derived.Test.YtkdgpbnngkljkaaDoorActMark
import Derived.Test.YtkdgpbnngkljkaaDoorActEqS
namespace Go.Proofs.YtkdgpbnngkljkaaDoor
open Go.RowKit

theorem readJr_len : ∀ (n : Nat) (l : List UInt8), l.length ≤ n → (readJr l).1.length ≤ l.length ∧ (readJr l).2 ≤ l.length := by
  intro n
  induction n with
  | zero =>
    intro l h
    obtain rfl : l = [] := List.eq_nil_of_length_eq_zero (by omega)
    exact ⟨Nat.le_refl _, Nat.le_refl _⟩
  | succ n ih =>
    intro l h
    cases hn : nl l with
    | none => rw [readJr_no hn]; simp
    | some i =>
      have hi := (nl_some hn).2.1
      cases ha : readAc (l.take i) with
      | none => rw [readJr_bad hn ha]; simp
      | some a =>
        rw [readJr_more hn ha]
        have := ih (l.drop (i + 1)) (by rw [List.length_drop]; omega)
        rw [List.length_drop] at this
        simp
        omega

set_option maxRecDepth 100000 in
set_option maxHeartbeats 3200000 in
theorem law_FnExactReadJournal (s : ByteArray) (w : World) (hz : s.size ≤ maxLen) (hE : Env w) :
    Calls Tryd.prog 7 #[.string s] w fun e w' => e = .returned (.bool true) ∧ Below w.heap.size w w' := by
  obtain ⟨l, rfl⟩ : ∃ l : List UInt8, s = ⟨l.toArray⟩ := ⟨s.data.toList, by simp⟩
  by_cases hl : l.length ≤ 1048576
  · obtain ⟨hj1, hj2⟩ := readJr_len _ l (Nat.le_refl _)
    have HE := Lib.hid hE
    clear hz hE
    go_enter Tryd.func7, Tryd.ntmps7
    go_wp2_with fail
    refine (spec_ReadJournal l _ rfl _ (by omega)).mono ?_
    rintro e w1 ⟨v1, n1, rfl, rfl, o1, hb⟩
    obtain ⟨xs, hxs⟩ : ∃ xs, xs = (readJr l).1 := ⟨_, rfl⟩
    obtain ⟨n, hn⟩ : ∃ n, n = (readJr l).2 := ⟨_, rfl⟩
    rw [← hxs] at o1 hj1
    rw [← hn] at hj2 ⊢
    have hm : xs.length ≤ 1048576 := by omega
    have HX := Lib.hid hxs
    have HNN := Lib.hid hn
    clear hxs hn
    have HB := Lib.hid hb
    have S1 := Lib.hid o1.sl
    have hs1 := hb.size
    clear hb o1
    go_wp2_with fail
    refine (impl_ReadJournal l _ rfl _ (HE.out.below HB.out) (by omega)).mono ?_
    rintro e w2 ⟨v2, n2, rfl, rfl, o2, hb⟩
    rw [← HX.out] at o2
    rw [← HNN.out]
    have hs2 := hb.size
    replace S1 := Lib.hid (S1.out.below hb (Nat.le_refl _))
    replace HB := Lib.hid (HB.out.trans (hb.mono hs1))
    have O2 := Lib.hid o2
    clear hb o2
    go_wp2_with fail
    refine (eqActS_any _ _ _ _ _ _ xs xs _ O2.out.sl S1.out (Nat.le_refl _) hs2 hm).mono ?_
    rintro e w3 ⟨rfl, hb⟩
    have hs3 := hb.size
    replace S1 := Lib.hid (S1.out.below hb hs2)
    replace O2 := Lib.hid (OwnA.below O2.out hb (Nat.le_refl _))
    replace HB := Lib.hid (HB.out.trans (hb.mono (by omega)))
    clear hb
    have he : eqAs xs xs = true := by simp [eqAs]
    rw [he]
    go_wp2_with fail
    refine (markActS_any _ _ _ xs 1 _ O2.out hm (by omega) (by omega)).mono ?_
    rintro e w4 ⟨rfl, ho, o2⟩
    have hs4 := ho.size
    replace S1 := Lib.hid (S1.out.outside ho (by omega))
    replace HB := Lib.hid (Below.outside HB.out ho hs1 (by omega))
    have hq := seqA_length 1 xs.length
    replace O2 := Lib.hid o2
    clear ho o2
    go_wp2_with fail
    refine (heldActS_any _ _ _ xs.length 1 _ O2.out.sl hm (by omega) (by omega)).mono ?_
    rintro e w' ⟨rfl, rfl⟩
    have hne : ((1 + 5 * (xs.length : Int)) != 1 + 5 * xs.length) = false := by simp
    go_wp2_with fail
    refine (impl_ReadJournal l _ rfl _ (HE.out.below HB.out) (by omega)).mono ?_
    rintro e w5 ⟨v5, n5, rfl, rfl, o5, hb⟩
    rw [← HX.out] at o5
    rw [← HNN.out]
    have hs5 := hb.size
    replace S1 := Lib.hid (S1.out.below hb (by omega))
    replace O2 := Lib.hid (OwnA.below O2.out hb (by omega))
    replace HB := Lib.hid (HB.out.trans (hb.mono HB.out.size))
    have S5 := Lib.hid o5.sl
    clear hb o5
    go_wp2_with fail
    refine (eqActS_any _ _ _ _ _ _ xs xs _ S5.out S1.out (Nat.le_refl _) (by omega) hm).mono ?_
    rintro e w6 ⟨rfl, hb⟩
    replace O2 := Lib.hid (OwnA.below O2.out hb (by omega))
    replace HB := Lib.hid (HB.out.trans (hb.mono HB.out.size))
    clear hb
    rw [he]
    go_wp2_with fail
    refine (heldActS_any _ _ _ xs.length 1 _ O2.out.sl hm (by omega) (by omega)).mono ?_
    rintro e w' ⟨rfl, rfl⟩
    go_wp2
    go_ret
    exact ⟨rfl, HB.out⟩
  · have hl' : 1048576 < l.length := by omega
    clear hE hz
    go_enter Tryd.func7, Tryd.ntmps7
    go_wp2
    go_ret
    exact ⟨rfl, Below.refl _ _⟩
end Go.Proofs.YtkdgpbnngkljkaaDoor
