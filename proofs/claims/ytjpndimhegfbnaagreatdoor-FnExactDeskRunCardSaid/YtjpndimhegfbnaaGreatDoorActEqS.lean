/-
  Texts of walks and plain lemmas for this seat; no condition.
-/
import Derived.Test.YtjpndimhegfbnaaGreatDoorAcs
import Derived.Test.YtjpndimhegfbnaaGreatDoorActEq
import Derived.Deep.RegionWith
namespace Go.Proofs.YtjpndimhegfbnaaGreatDoor
open Go.RowKit

def eqAs (xs ys : List Ac) : Bool := decide (xs = ys)
theorem eqAs_len {xs ys : List Ac} (h : xs.length ≠ ys.length) : eqAs xs ys = false := by
  unfold eqAs; rw [decide_eq_false_iff_not]; intro e; exact h (by rw [e])
theorem eqAs_ne {xs ys : List Ac} {k : Nat} (h1 : k < xs.length) (h2 : k < ys.length) (h : eqAc xs[k] ys[k] = false) : eqAs xs ys = false := by
  unfold eqAs; rw [decide_eq_false_iff_not]; intro e; subst e; simp [eqAc] at h
theorem eqAs_all {xs ys : List Ac} (hl : xs.length = ys.length) (h : ∀ j (h1 : j < xs.length) (h2 : j < ys.length), xs[j] = ys[j]) : eqAs xs ys = true := by
  unfold eqAs; rw [decide_eq_true_eq]; exact List.ext_getElem hl h

set_option maxRecDepth 100000 in
set_option maxHeartbeats 1600000 in
theorem eqActS_any (lo hi lo' hi' : Nat) (v v' : Value) (xs ys : List Ac) (w : World) (hx : SlA lo hi w v xs) (hy : SlA lo' hi' w v' ys) (hh : hi ≤ w.heap.size) (hh' : hi' ≤ w.heap.size) (hm : xs.length ≤ 1048576) :
    Calls Tryz.prog 66 #[v, v'] w fun e w' => e = .returned (.bool (eqAs xs ys)) ∧ Below w.heap.size w w' := by
  obtain ⟨a, cap, rfl, hcap, hcm⟩ := hx.shape
  obtain ⟨a', cap', rfl, hcap', hcm'⟩ := hy.shape
  have HX := Lib.hid hx
  have HY := Lib.hid hy
  clear hx hy hcm hcm' hcap hcap'
  by_cases hl : xs.length = ys.length
  · have HL := Lib.hid hl
    have hl1 : ((xs.length : Int) != ys.length) = false := by simp [hl]
    have hm' : ys.length ≤ 1048576 := by omega
    clear hl
    go_enter Tryz.func66, Tryz.ntmps66
    go_wp2
    go_loopw [5] (fun i wr => ∃ k : Nat, k ≤ xs.length ∧ i = .int .i64 k ∧ Hid (∀ j (h1 : j < k) (h2 : j < xs.length) (h3 : j < ys.length), xs[j] = ys[j]) ∧ Below w.heap.size w wr) (fun i _ => xs.length - (intOf i).toNat)
    case atStart => exact ⟨0, by omega, rfl, Lib.hid (by intro j h; omega), Below.refl _ _⟩
    case round =>
      obtain ⟨k, hk, rfl, HJ, hb⟩ := hrel
      by_cases hlt : k < xs.length
      · have hlt' : k < ys.length := by have := HL.out; omega
        obtain ⟨b, off, rfl, _, _, hbs, c0, c1, c2, c3, c4⟩ := (HX.out.below hb hh).get k hlt
        obtain ⟨b', off', rfl, _, _, hbs', c0', c1', c2', c3', c4'⟩ := (HY.out.below hb hh').get k hlt'
        have HB := Lib.hid hb
        have hsz := hb.size
        clear hb
        go_wp2
        go_region_with (go_at_call 95; refine (eqAct_any xs[k] ys[k] _).mono ?_; rintro e w1 ⟨rfl, hb1⟩)
        all_goals go_wp2
        all_goals first
          | (go_ret
             have hv' : (!eqAc xs[k] ys[k]) = true := by assumption
             have hv : eqAc xs[k] ys[k] = false := by simpa using hv'
             exact ⟨ret_bool (eqAs_ne hlt hlt' hv).symm, HB.out.drew.trans (hb1.mono hsz)⟩)
          | (go_roundw
             case rel =>
               have hv' : (!eqAc xs[k] ys[k]) = false := by assumption
               have hv : eqAc xs[k] ys[k] = true := by simpa using hv'
               refine ⟨k + 1, by omega, by go_num, Lib.hid ?_, HB.out.drew.trans (hb1.mono hsz)⟩
               intro j h1 h2 h3
               rcases Nat.lt_or_ge j k with h | h
               · exact HJ.out j h h2 h3
               · obtain rfl : j = k := by omega
                 simpa [eqAc] using hv
             case measure => simp [intOf]; omega)
      · go_wp2
        go_ret
        exact ⟨ret_bool (eqAs_all HL.out fun j h1 h2 => HJ.out j (by omega) h1 h2).symm, hb⟩
  · have HL := Lib.hid hl
    have hl1 : ((xs.length : Int) != ys.length) = true := by simp; omega
    clear hl
    go_enter Tryz.func66, Tryz.ntmps66
    go_wp2
    go_ret
    exact ⟨ret_bool (eqAs_len HL.out).symm, Below.refl _ _⟩
end Go.Proofs.YtjpndimhegfbnaaGreatDoor
