/-
  Texts of walks and plain lemmas for this seat; no condition.
-/
import Derived.Test.YtjpndimhegfbnaaGreatDoorT1
import Derived.Test.YtjpndimhegfbnaaGreatDoorL1In
namespace Go.Proofs.YtjpndimhegfbnaaGreatDoor
open Go.RowKit

def eqL (xs ys : List Int) : Bool := xs == ys

theorem eqL_len {xs ys : List Int} (h : xs.length ≠ ys.length) : eqL xs ys = false := by
  unfold eqL; rw [beq_eq_false_iff_ne]; intro e; exact h (by rw [e])
theorem eqL_ne {xs ys : List Int} {k : Nat} (h1 : k < xs.length) (h2 : k < ys.length) (h : xs[k] ≠ ys[k]) : eqL xs ys = false := by
  unfold eqL; rw [beq_eq_false_iff_ne]; intro e; subst e; exact h rfl
theorem eqL_all {xs ys : List Int} (hl : xs.length = ys.length) (h : ∀ j (h1 : j < xs.length) (h2 : j < ys.length), xs[j] = ys[j]) : eqL xs ys = true := by
  unfold eqL; rw [beq_iff_eq]; exact List.ext_getElem hl h


set_option maxHeartbeats 400000 in
theorem eqIntS_any (lo hi lo' hi' : Nat) (v v' : Value) (xs ys : List Int) (w : World) (hx : SlI lo hi w v xs) (hy : SlI lo' hi' w v' ys) (hm : xs.length ≤ 1048576) :
    Calls Tryz.prog 33 #[v, v'] w fun e w' => e = .returned (.bool (eqL xs ys)) ∧ ∃ m, w' = w.drewN m := by
  obtain ⟨a, cap, rfl, hcap, hcm, hc⟩ := hx.open
  obtain ⟨a', cap', rfl, hcap', hcm', hc'⟩ := hy.open
  clear hx hcm hy hcm' hcap hcap'
  by_cases hl : xs.length = ys.length
  · have HL := Lib.hid hl
    have hl1 : ((xs.length : Int) != ys.length) = false := by simp [hl]
    have hm' : ys.length ≤ 1048576 := by omega
    clear hl
    go_enter Tryz.func33, Tryz.ntmps33
    go_wp2
    go_loopw [5] (fun i wr => ∃ k m : Nat, k ≤ xs.length ∧ i = .int .i64 k ∧ (∀ j (h1 : j < k) (h2 : j < xs.length) (h3 : j < ys.length), xs[j] = ys[j]) ∧ wr = w.drewN m) (fun i _ => xs.length - (intOf i).toNat)
    case atStart => exact ⟨0, 0, by omega, rfl, by intro j h; omega, rfl⟩
    case round =>
      obtain ⟨k, m, hk, rfl, hj, rfl⟩ := hrel
      have HJ := Lib.hid hj
      clear hj
      by_cases hlt : k < xs.length
      · have hlt' : k < ys.length := by have := HL.out; omega
        obtain ⟨b, off, rfl, _, _, hbs, hck⟩ := hc k hlt
        obtain ⟨b', off', rfl, _, _, hbs', hck'⟩ := hc' k hlt'
        clear hc hc'
        by_cases he : xs[k] = ys[k]
        · have HE := Lib.hid he
          have he1 : (xs[k] != ys[k]) = false := by simp [he]
          clear he
          go_wp2
          go_quiet (fail)
          go_wp2
          go_roundw
          case rel =>
            refine ⟨k + 1, m + nq, by omega, by go_num, ?_, by first | rfl | rw [World.drewN_drewN]⟩
            intro j h1 h2 h3
            rcases Nat.lt_or_ge j k with h | h
            · exact HJ.out j h h2 h3
            · obtain rfl : j = k := by omega
              exact HE.out
          case measure => simp [intOf]; omega
        · have HE := Lib.hid he
          have he1 : (xs[k] != ys[k]) = true := by simp [he]
          clear he
          go_wp2
          go_quiet (fail)
          go_wp2
          go_ret
          exact ⟨ret_bool (eqL_ne hlt hlt' HE.out).symm, m + nq, by first | rfl | rw [World.drewN_drewN]⟩
      · go_wp2
        go_ret
        exact ⟨ret_bool (eqL_all HL.out fun j h1 h2 => HJ.out j (by omega) h1 h2).symm, m, rfl⟩
  · have HL := Lib.hid hl
    have hl1 : ((xs.length : Int) != ys.length) = true := by simp; omega
    clear hl hc hc'
    go_enter Tryz.func33, Tryz.ntmps33
    go_wp2
    go_ret
    exact ⟨ret_bool (eqL_len HL.out).symm, 0, rfl⟩
end Go.Proofs.YtjpndimhegfbnaaGreatDoor
