/-
  Texts of walks and plain lemmas for this seat; no condition.
-/
import Derived.Test.YtnpnpafdklcjmaaT2
import Derived.Test.YtnpnpafdklcjmaaTrace2
import Derived.Test.YtnpnpafdklcjmaaDTrace
import Derived.Test.YtnpnpafdklcjmaaTText2
namespace Go.Proofs.Ytnpnpafdklcjmaa
open Go.RowKit

set_option maxHeartbeats 400000 in
theorem sameInts_any (lo hi lo' hi' : Nat) (v v' : Value) (xs ys : List Int) (w : World) (hx : SlI lo hi w v xs) (hy : SlI lo' hi' w v' ys) (hm : xs.length ≤ 1048576) :
    Calls Try.prog 13 #[v, v'] w fun e w' => e = .returned (.bool (eqL xs ys)) ∧ ∃ m, w' = w.drewN m := by
  obtain ⟨a, cap, rfl, hcap, hcm, hc⟩ := hx.open
  obtain ⟨a', cap', rfl, hcap', hcm', hc'⟩ := hy.open
  clear hx hcm hy hcm' hcap hcap'
  by_cases hl : xs.length = ys.length
  · have HL := Lib.hid hl
    have hl1 : ((xs.length : Int) != ys.length) = false := by simp [hl]
    have hm' : ys.length ≤ 1048576 := by omega
    clear hl
    go_enter Try.func13, Try.ntmps13
    go_wp2
    go_loopw [5] (fun i wr => ∃ k m : Nat, k ≤ xs.length ∧ i = .int .i64 k ∧ (∀ j (h1 : j < k) (h2 : j < xs.length) (h3 : j < ys.length), xs[j] = ys[j]) ∧ wr = w.drewN m) (fun i _ => xs.length - (intOf i).toNat)
    case atStart => exact ⟨0, 0, by omega, rfl, by intro j h; omega, rfl⟩
    case round =>
      obtain ⟨k, m, hk, rfl, hj, rfl⟩ := hrel
      have HJ := Lib.hid hj
      clear hj
      by_cases hlt : k < xs.length
      · have hlt' : k < ys.length := by have := HL.out; omega
        obtain ⟨b, off, rfl, _, _, hbs, hck⟩ := hc k hlt
        obtain ⟨b', off', rfl, _, _, hbs', hck'⟩ := hc' k hlt'
        clear hc hc'
        by_cases he : xs[k] = ys[k]
        · have HE := Lib.hid he
          have he1 : (xs[k] != ys[k]) = false := by simp [he]
          clear he
          go_wp2
          go_quiet (fail)
          go_wp2
          go_roundw
          case rel =>
            refine ⟨k + 1, m + nq, by omega, by go_num, ?_, by first | rfl | rw [World.drewN_drewN]⟩
            intro j h1 h2 h3
            rcases Nat.lt_or_ge j k with h | h
            · exact HJ.out j h h2 h3
            · obtain rfl : j = k := by omega
              exact HE.out
          case measure => simp [intOf]; omega
        · have HE := Lib.hid he
          have he1 : (xs[k] != ys[k]) = true := by simp [he]
          clear he
          go_wp2
          go_quiet (fail)
          go_wp2
          go_ret
          exact ⟨ret_bool (eqL_ne hlt hlt' HE.out).symm, m + nq, by first | rfl | rw [World.drewN_drewN]⟩
      · go_wp2
        go_ret
        exact ⟨ret_bool (eqL_all HL.out fun j h1 h2 => HJ.out j (by omega) h1 h2).symm, m, rfl⟩
  · have HL := Lib.hid hl
    have hl1 : ((xs.length : Int) != ys.length) = true := by simp; omega
    clear hl hc hc'
    go_enter Try.func13, Try.ntmps13
    go_wp2
    go_ret
    exact ⟨ret_bool (eqL_len HL.out).symm, 0, rfl⟩

set_option maxHeartbeats 400000 in
theorem alive_any (w : World) : Calls Try.prog 12 #[] w fun e w' => e = .returned (.bool true) ∧ w = w' := by
  have h0 : bits .andNot .i64 15 0 = 15 := by decide
  have h1 : bits .andNot .i64 15 15 = 0 := by decide
  go_enter Try.func12, Try.ntmps12
  go_wp2
  go_ret
  exact ⟨rfl, rfl⟩

set_option maxHeartbeats 400000 in
theorem DrawTraceText_any (v : Value) (xs : List Int) (w : World) (h : SlB 0 w.heap.size w v xs) :
    Calls Try.prog 10 #[v] w (RetV fun x w' => ∃ ys : List Int, OwnI w.heap.size w'.heap.size 3 w' x ys ∧ ys.length ≤ 100 ∧ Below w.heap.size w w') := by
  go_enter Try.func10, Try.ntmps10
  go_wp2_with fail
  refine (l20Open_any _ xs _ h).mono ?_
  rintro e w1 ⟨_, rfl, g, rfl, hg, hb, hr⟩
  go_wp2_with fail
  refine (l20Trace_any g 0 _ _ _ hr (by omega) (by omega) (by omega) (by omega)).mono ?_
  rintro e w2 ⟨v2, rfl, ys, h1, h2, h3, h4⟩
  have hs := hb.size
  have H := Lib.hid (And.intro (h1 : OwnI w1.heap.size w2.heap.size 3 w2 v2 ys) (And.intro h2 (Below.outside hb h3 hg hs)))
  clear h1 h2 h3 h4 hr h hb
  go_wp2
  go_ret
  obtain ⟨h1, h2, h3⟩ := H.out
  exact RetV.mk _ rfl ⟨ys, Own.wide2 h1 hs (Nat.le_refl _), h2, h3⟩

theorem trText_nil_iff (xs : List Int) : trText xs = [] ↔ traceV xs = false := by
  unfold trText
  cases h : traceV xs
  · simp
  · have := (traceV_len h).1
    have hl := trGo_length xs 0
    simp only [if_true, Bool.true_eq_false, iff_false]
    intro e
    rw [e] at hl
    simp at hl
    omega

theorem trByte_inj (i : Nat) (x y : Int) (hx : tvAt i x = true) (hy : tvAt i y = true) (h : trByte i x = trByte i y) : x = y := by
  unfold tvAt at hx hy
  unfold trByte at h
  split at hx
  · rename_i hp
    rw [if_pos hp] at hy h
    rw [if_pos hp] at h
    simp [isAtomB] at hx hy
    have := congrArg UInt8.toNat h
    simp at this
    omega
  · rename_i hp
    rw [if_neg hp] at hy h
    rw [if_neg hp] at h
    simp [isActB] at hx hy
    have := congrArg UInt8.toNat h
    simp at this
    omega

theorem trGo_inj : ∀ (xs ys : List Int) (i : Nat), tvAll i xs = true → tvAll i ys = true → trGo i xs = trGo i ys → xs = ys := by
  intro xs
  induction xs with
  | nil =>
    intro ys i _ _ h
    cases ys with
    | nil => rfl
    | cons y r => simp [trGo] at h
  | cons x r ih =>
    intro ys i hx hy h
    cases ys with
    | nil => simp [trGo] at h
    | cons y s =>
      simp only [trGo, List.cons.injEq] at h
      simp only [tvAll, Bool.and_eq_true] at hx hy
      rw [trByte_inj i x y hx.1 hy.1 h.1, ih s (i + 1) hx.2 hy.2 h.2]

theorem trText_inj (xs ys : List Int) (hx : traceV xs = true) (h : trText ys = trText xs) : xs = ys := by
  have hn : trText xs ≠ [] := fun e => by rw [trText_nil_iff] at e; rw [hx] at e; cases e
  have hy : traceV ys = true := by
    cases h' : traceV ys
    · exact absurd (h.symm.trans ((trText_nil_iff ys).2 h')) hn
    · rfl
  simp only [trText, hx, hy, if_true] at h
  simp only [traceV, Bool.and_eq_true] at hx hy
  exact trGo_inj xs ys 0 hx.2 hy.2 h.symm
theorem trText_length (xs : List Int) (hx : traceV xs = true) : (trText xs).length = xs.length := by
  simp [trText, hx, trGo_length]
end Go.Proofs.Ytnpnpafdklcjmaa
