/-
  Texts of walks and plain lemmas for this seat; no condition.
-/
import Derived.Test.YtnpnpafdklcjmaaMv
import Derived.Test.YtnpnpafdklcjmaaTrLaw
import Derived.Deep.RegionWith
namespace Go.Proofs.Ytnpnpafdklcjmaa
open Go.RowKit

def eqMv (m n : Mv) : Bool := decide (m = n)

set_option maxHeartbeats 800000 in
theorem eqMove_any (m n : Mv) (w : World) :
    Calls Try.prog 42 #[.agg #[.int .i64 m.which, .bool m.back, .int .i64 m.at_], .agg #[.int .i64 n.which, .bool n.back, .int .i64 n.at_]] w fun e w' => e = .returned (.bool (eqMv m n)) ∧ Below w.heap.size w w' := by
  obtain ⟨a1, a2, a3⟩ := m
  obtain ⟨b1, b2, b3⟩ := n
  have hb : Hid (∀ o1 o2, Below w.heap.size w ((w.alloc o1).alloc o2)) := Lib.hid fun o1 o2 => ((Below.refl _ _).alloc (Nat.le_refl _) _).alloc (by simp) _
  by_cases h1 : a1 = b1
  · subst h1
    by_cases h2 : a2 = b2
    · subst h2
      by_cases h3 : a3 = b3
      · subst h3
        have e1 : (a1 != a1) = false := by simp
        have e3 : (a3 != a3) = false := by simp
        go_enter Try.func42, Try.ntmps42
        go_wp2
        go_ret
        exact ⟨ret_bool (by simp [eqMv]), hb.out _ _⟩
      · have e1 : (a1 != a1) = false := by simp
        have e3 : (a3 != b3) = true := by simp [h3]
        have H3 := Lib.hid h3
        clear h3
        go_enter Try.func42, Try.ntmps42
        go_wp2
        go_ret
        exact ⟨ret_bool (by simp [eqMv, H3.out]), hb.out _ _⟩
    · have e1 : (a1 != a1) = false := by simp
      have e2 : (a2 == b2) = false := by simp [h2]
      have H2 := Lib.hid h2
      clear h2
      go_enter Try.func42, Try.ntmps42
      go_wp2
      go_ret
      exact ⟨ret_bool (by simp [eqMv, H2.out]), hb.out _ _⟩
  · have e1 : (a1 != b1) = true := by simp [h1]
    have H1 := Lib.hid h1
    clear h1
    go_enter Try.func42, Try.ntmps42
    go_wp2
    go_ret
    exact ⟨ret_bool (by simp [eqMv, H1.out]), hb.out _ _⟩

def eqMs (xs ys : List Mv) : Bool := decide (xs = ys)
theorem eqMs_len {xs ys : List Mv} (h : xs.length ≠ ys.length) : eqMs xs ys = false := by
  unfold eqMs; rw [decide_eq_false_iff_not]; intro e; exact h (by rw [e])
theorem eqMs_ne {xs ys : List Mv} {k : Nat} (h1 : k < xs.length) (h2 : k < ys.length) (h : eqMv xs[k] ys[k] = false) : eqMs xs ys = false := by
  unfold eqMs; rw [decide_eq_false_iff_not]; intro e; subst e; simp [eqMv] at h
theorem eqMs_all {xs ys : List Mv} (hl : xs.length = ys.length) (h : ∀ j (h1 : j < xs.length) (h2 : j < ys.length), xs[j] = ys[j]) : eqMs xs ys = true := by
  unfold eqMs; rw [decide_eq_true_eq]; exact List.ext_getElem hl h

set_option maxHeartbeats 800000 in
theorem eqMoveS_any (lo hi lo' hi' : Nat) (v v' : Value) (xs ys : List Mv) (w : World) (hx : SlM lo hi w v xs) (hy : SlM lo' hi' w v' ys) (hh : hi ≤ w.heap.size) (hh' : hi' ≤ w.heap.size) (hm : xs.length ≤ 1048576) :
    Calls Try.prog 31 #[v, v'] w fun e w' => e = .returned (.bool (eqMs xs ys)) ∧ Below w.heap.size w w' := by
  obtain ⟨a, cap, rfl, hcap, hcm⟩ := hx.shape
  obtain ⟨a', cap', rfl, hcap', hcm'⟩ := hy.shape
  have HX := Lib.hid hx
  have HY := Lib.hid hy
  clear hx hy hcm hcm' hcap hcap'
  by_cases hl : xs.length = ys.length
  · have HL := Lib.hid hl
    have hl1 : ((xs.length : Int) != ys.length) = false := by simp [hl]
    have hm' : ys.length ≤ 1048576 := by omega
    clear hl
    go_enter Try.func31, Try.ntmps31
    go_wp2
    go_loopw [5] (fun i wr => ∃ k : Nat, k ≤ xs.length ∧ i = .int .i64 k ∧ Hid (∀ j (h1 : j < k) (h2 : j < xs.length) (h3 : j < ys.length), xs[j] = ys[j]) ∧ Below w.heap.size w wr) (fun i _ => xs.length - (intOf i).toNat)
    case atStart => exact ⟨0, by omega, rfl, Lib.hid (by intro j h; omega), Below.refl _ _⟩
    case round =>
      obtain ⟨k, hk, rfl, HJ, hb⟩ := hrel
      by_cases hlt : k < xs.length
      · have hlt' : k < ys.length := by have := HL.out; omega
        obtain ⟨b, off, rfl, _, _, hbs, c1, c2, c3⟩ := (HX.out.below hb hh).get k hlt
        obtain ⟨b', off', rfl, _, _, hbs', c1', c2', c3'⟩ := (HY.out.below hb hh').get k hlt'
        have HB := Lib.hid hb
        have hsz := hb.size
        clear hb
        go_wp2
        go_region_with (go_at_call 42; refine (eqMove_any xs[k] ys[k] _).mono ?_; rintro e w1 ⟨rfl, hb1⟩)
        all_goals go_wp2
        all_goals first
          | (go_ret
             have hv' : (!eqMv xs[k] ys[k]) = true := by assumption
             have hv : eqMv xs[k] ys[k] = false := by simpa using hv'
             exact ⟨ret_bool (eqMs_ne hlt hlt' hv).symm, HB.out.drew.trans (hb1.mono hsz)⟩)
          | (go_roundw
             case rel =>
               have hv' : (!eqMv xs[k] ys[k]) = false := by assumption
               have hv : eqMv xs[k] ys[k] = true := by simpa using hv'
               refine ⟨k + 1, by omega, by go_num, Lib.hid ?_, HB.out.drew.trans (hb1.mono hsz)⟩
               intro j h1 h2 h3
               rcases Nat.lt_or_ge j k with h | h
               · exact HJ.out j h h2 h3
               · obtain rfl : j = k := by omega
                 simpa [eqMv] using hv
             case measure => simp [intOf]; omega)
      · go_wp2
        go_ret
        exact ⟨ret_bool (eqMs_all HL.out fun j h1 h2 => HJ.out j (by omega) h1 h2).symm, hb⟩
  · have HL := Lib.hid hl
    have hl1 : ((xs.length : Int) != ys.length) = true := by simp; omega
    clear hl
    go_enter Try.func31, Try.ntmps31
    go_wp2
    go_ret
    exact ⟨ret_bool (eqMs_len HL.out).symm, Below.refl _ _⟩
end Go.Proofs.Ytnpnpafdklcjmaa
