/-
  Texts of walks and plain lemmas for this seat; no condition.
-/
import Derived.Test.YtoondakdjhhehaaGA
import Derived.Test.YtoondakdjhhehaaRows
namespace Go.Proofs.Ytoondakdjhhehaa
open Go.RowKit
set_option maxHeartbeats 400000 in
theorem sameInts_any (lo hi lo' hi' : Nat) (v v' : Value) (xs ys : List Int) (w : World) (hx : SlI lo hi w v xs) (hy : SlI lo' hi' w v' ys) (hm : xs.length ≤ 1048576) :
    Calls Try.prog 7 #[v, v'] w fun e w' => e = .returned (.bool (eqL xs ys)) ∧ ∃ m, w' = w.drewN m := by
  obtain ⟨a, cap, rfl, hcap, hcm, hc⟩ := hx.open
  obtain ⟨a', cap', rfl, hcap', hcm', hc'⟩ := hy.open
  clear hx hcm hy hcm' hcap hcap'
  by_cases hl : xs.length = ys.length
  · have HL := Lib.hid hl
    have hl1 : ((xs.length : Int) != ys.length) = false := by simp [hl]
    have hm' : ys.length ≤ 1048576 := by omega
    clear hl
    go_enter Try.func7, Try.ntmps7
    go_wp2
    go_loopw [5] (fun i wr => ∃ k m : Nat, k ≤ xs.length ∧ i = .int .i64 k ∧ (∀ j (h1 : j < k) (h2 : j < xs.length) (h3 : j < ys.length), xs[j] = ys[j]) ∧ wr = w.drewN m) (fun i _ => xs.length - (intOf i).toNat)
    case atStart => exact ⟨0, 0, by omega, rfl, by intro j h; omega, rfl⟩
    case round =>
      obtain ⟨k, m, hk, rfl, hj, rfl⟩ := hrel
      have HJ := Lib.hid hj
      clear hj
      by_cases hlt : k < xs.length
      · have hlt' : k < ys.length := by have := HL.out; omega
        obtain ⟨b, off, rfl, _, _, hbs, hck⟩ := hc k hlt
        obtain ⟨b', off', rfl, _, _, hbs', hck'⟩ := hc' k hlt'
        clear hc hc'
        by_cases he : xs[k] = ys[k]
        · have HE := Lib.hid he
          have he1 : (xs[k] != ys[k]) = false := by simp [he]
          clear he
          go_wp2
          go_quiet (fail)
          go_wp2
          go_roundw
          case rel =>
            refine ⟨k + 1, m + nq, by omega, by go_num, ?_, by first | rfl | rw [World.drewN_drewN]⟩
            intro j h1 h2 h3
            rcases Nat.lt_or_ge j k with h | h
            · exact HJ.out j h h2 h3
            · obtain rfl : j = k := by omega
              exact HE.out
          case measure => simp [intOf]; omega
        · have HE := Lib.hid he
          have he1 : (xs[k] != ys[k]) = true := by simp [he]
          clear he
          go_wp2
          go_quiet (fail)
          go_wp2
          go_ret
          exact ⟨ret_bool (eqL_ne hlt hlt' HE.out).symm, m + nq, by first | rfl | rw [World.drewN_drewN]⟩
      · go_wp2
        go_ret
        exact ⟨ret_bool (eqL_all HL.out fun j h1 h2 => HJ.out j (by omega) h1 h2).symm, m, rfl⟩
  · have HL := Lib.hid hl
    have hl1 : ((xs.length : Int) != ys.length) = true := by simp; omega
    clear hl hc hc'
    go_enter Try.func7, Try.ntmps7
    go_wp2
    go_ret
    exact ⟨ret_bool (eqL_len HL.out).symm, 0, rfl⟩

theorem sameInts_same (lo hi lo' hi' : Nat) (v v' : Value) (xs : List Int) (w : World) (hx : SlI lo hi w v xs) (hy : SlI lo' hi' w v' xs) (hm : xs.length ≤ 1048576) :
    Calls Try.prog 7 #[v, v'] w fun e w' => e = .returned (.bool true) ∧ Below w.heap.size w w' := by
  refine (sameInts_any lo hi lo' hi' v v' xs xs w hx hy hm).mono ?_
  rintro e w' ⟨rfl, m, rfl⟩
  rw [show eqL xs xs = true from by simp [eqL]]
  exact ⟨rfl, below_drewN (Below.refl _ _) _⟩

set_option maxHeartbeats 400000 in
theorem alive_any (w : World) : Calls Try.prog 8 #[] w fun e w' => e = .returned (.bool true) ∧ w = w' := by
  have h0 : bits .andNot .i64 15 0 = 15 := by decide
  have h1 : bits .andNot .i64 15 15 = 0 := by decide
  go_enter Try.func8, Try.ntmps8
  go_wp2
  go_ret
  exact ⟨rfl, rfl⟩
end Go.Proofs.Ytoondakdjhhehaa
