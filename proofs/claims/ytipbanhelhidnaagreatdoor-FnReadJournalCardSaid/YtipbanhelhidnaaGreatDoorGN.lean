/-
  Texts of walks and plain lemmas for this seat; no condition.
-/
import Derived.Test.YtipbanhelhidnaaGreatDoorGA
import Derived.Test.YtipbanhelhidnaaGreatDoorGB
import Derived.Test.YtipbanhelhidnaaGreatDoorGG
import Derived.Test.YtipbanhelhidnaaGreatDoorGK
import Derived.Test.YtipbanhelhidnaaGreatDoorRows
import Derived.Deep.QuietTactic
import Derived.BigQuiet
import Derived.Laws.StructEq
namespace Go.Proofs.YtipbanhelhidnaaGreatDoor
open Go.RowKit
section

end

section

set_option maxHeartbeats 400000 in
theorem sameInts_any (lo hi lo' hi' : Nat) (v v' : Value) (xs ys : List Int) (w : World) (hx : SlI lo hi w v xs) (hy : SlI lo' hi' w v' ys) (hm : xs.length ≤ 1048576) :
    Calls Tryz.prog 39 #[v, v'] w fun e w' => e = .returned (.bool (eqL xs ys)) ∧ ∃ m, w' = w.drewN m := by
  obtain ⟨a, cap, rfl, hcap, hcm, hc⟩ := hx.open
  obtain ⟨a', cap', rfl, hcap', hcm', hc'⟩ := hy.open
  clear hx hcm hy hcm' hcap hcap'
  by_cases hl : xs.length = ys.length
  · have HL := Lib.hid hl
    have hl1 : ((xs.length : Int) != ys.length) = false := by simp [hl]
    have hm' : ys.length ≤ 1048576 := by omega
    clear hl
    go_enter Tryz.func39, Tryz.ntmps39
    go_wp2
    go_loopw [5] (fun i wr => ∃ k m : Nat, k ≤ xs.length ∧ i = .int .i64 k ∧ (∀ j (h1 : j < k) (h2 : j < xs.length) (h3 : j < ys.length), xs[j] = ys[j]) ∧ wr = w.drewN m) (fun i _ => xs.length - (intOf i).toNat)
    case atStart => exact ⟨0, 0, by omega, rfl, by intro j h; omega, rfl⟩
    case round =>
      obtain ⟨k, m, hk, rfl, hj, rfl⟩ := hrel
      have HJ := Lib.hid hj
      clear hj
      by_cases hlt : k < xs.length
      · have hlt' : k < ys.length := by have := HL.out; omega
        obtain ⟨b, off, rfl, _, _, hbs, hck⟩ := hc k hlt
        obtain ⟨b', off', rfl, _, _, hbs', hck'⟩ := hc' k hlt'
        clear hc hc'
        by_cases he : xs[k] = ys[k]
        · have HE := Lib.hid he
          have he1 : (xs[k] != ys[k]) = false := by simp [he]
          clear he
          go_wp2
          go_quiet (fail)
          go_wp2
          go_roundw
          case rel =>
            refine ⟨k + 1, m + nq, by omega, by go_num, ?_, by first | rfl | rw [World.drewN_drewN]⟩
            intro j h1 h2 h3
            rcases Nat.lt_or_ge j k with h | h
            · exact HJ.out j h h2 h3
            · obtain rfl : j = k := by omega
              exact HE.out
          case measure => simp [intOf]; omega
        · have HE := Lib.hid he
          have he1 : (xs[k] != ys[k]) = true := by simp [he]
          clear he
          go_wp2
          go_quiet (fail)
          go_wp2
          go_ret
          exact ⟨ret_bool (eqL_ne hlt hlt' HE.out).symm, m + nq, by first | rfl | rw [World.drewN_drewN]⟩
      · go_wp2
        go_ret
        exact ⟨ret_bool (eqL_all HL.out fun j h1 h2 => HJ.out j (by omega) h1 h2).symm, m, rfl⟩
  · have HL := Lib.hid hl
    have hl1 : ((xs.length : Int) != ys.length) = true := by simp; omega
    clear hl hc hc'
    go_enter Tryz.func39, Tryz.ntmps39
    go_wp2
    go_ret
    exact ⟨ret_bool (eqL_len HL.out).symm, 0, rfl⟩

theorem sameInts_same (lo hi lo' hi' : Nat) (v v' : Value) (xs : List Int) (w : World) (hx : SlI lo hi w v xs) (hy : SlI lo' hi' w v' xs) (hm : xs.length ≤ 1048576) :
    Calls Tryz.prog 39 #[v, v'] w fun e w' => e = .returned (.bool true) ∧ Below w.heap.size w w' := by
  refine (sameInts_any lo hi lo' hi' v v' xs xs w hx hy hm).mono ?_
  rintro e w' ⟨rfl, m, rfl⟩
  rw [eqL_same]
  exact ⟨rfl, below_drewN (Below.refl _ _) _⟩
end

section

set_option maxHeartbeats 800000 in
theorem sameMoves_same (lo hi lo' hi' : Nat) (v v' : Value) (xs : List Mv) (w : World) (hx : SlM lo hi w v xs) (hy : SlM lo' hi' w v' xs) (hm : xs.length ≤ 1048576) :
    Calls Tryz.prog 40 #[v, v'] w fun e w' => e = .returned (.bool true) ∧ Below w.heap.size w w' := by
  have HX := Lib.hid hx
  have HY := Lib.hid hy
  obtain ⟨a, cap, rfl, _, hcm⟩ := hx.shape
  obtain ⟨a', cap', rfl, _, hcm'⟩ := hy.shape
  clear hx hy hcm hcm'
  have hl1 : ((xs.length : Int) != xs.length) = false := by simp
  go_enter Tryz.func40, Tryz.ntmps40
  go_wp2
  go_loopw [5] (fun i wr => ∃ k m : Nat, k ≤ xs.length ∧ i = .int .i64 k ∧ wr = w.drewN m) (fun i _ => xs.length - (intOf i).toNat)
  case atStart => exact ⟨0, 0, by omega, rfl, rfl⟩
  case round =>
    obtain ⟨k, m, hk, rfl, rfl⟩ := hrel
    by_cases hlt : k < xs.length
    · obtain ⟨b, off, rfl, _, _, hbs, c1, c2, c3⟩ := HX.out.get k hlt
      obtain ⟨b', off', rfl, _, _, hbs', c1', c2', c3'⟩ := HY.out.get k hlt
      obtain ⟨p, q, r, hp, hq, hr⟩ : ∃ p q r, p = xs[k].which ∧ q = xs[k].back ∧ r = xs[k].at_ := ⟨_, _, _, rfl, rfl, rfl⟩
      rw [← hp] at c1 c1'
      rw [← hq] at c2 c2'
      rw [← hr] at c3 c3'
      clear hp hq hr
      have e1 : (p == p) = true := by simp
      have e2 : (q == q) = true := by simp
      have e3 : (r == r) = true := by simp
      go_wp2
      go_quiet (fail)
      go_wp2
      go_roundw
      case rel => exact ⟨k + 1, m + nq, by omega, by go_num, by first | rfl | rw [World.drewN_drewN]⟩
      case measure => simp [intOf]; omega
    · go_wp2
      go_ret
      exact ⟨rfl, below_drewN (Below.refl _ _) _⟩
set_option maxHeartbeats 1600000 in
theorem sameDesk_eq (lo hi lo' hi' : Nat) (a b c d a' b' c' d' : Value) (D : Dsk) (w : World) (hx : DeskAt lo hi w a b c d D) (hy : DeskAt lo' hi' w a' b' c' d' D) (hh : hi ≤ w.heap.size) (hh' : hi' ≤ w.heap.size) (hm : D.size ≤ 1048576) :
    Calls Tryz.prog 14 #[aggD a b c d, aggD a' b' c' d'] w fun e w' => e = .returned (.bool true) ∧ Below w.heap.size w w' := by
  unfold Dsk.size at hm
  have HX := Lib.hid hx
  have HY := Lib.hid hy
  clear hx hy
  obtain ⟨w0, hw0⟩ : ∃ w0, w0 = (w.alloc (.cells #[a, b, c, d] 31)).alloc (.cells #[a', b', c', d'] 31) := ⟨_, rfl⟩
  have HB0 : Hid (Below w.heap.size w w0) := by rw [hw0]; exact Lib.hid (((Below.refl _ _).alloc (Nat.le_refl _) _).alloc (by simp) _)
  have K1 : Hid (Blk w.heap.size (.cells #[a, b, c, d] 31) w0) := by
    rw [hw0]; exact Lib.hid ((Blk.new w _).below ((Below.refl (w.alloc _).heap.size _).alloc (Nat.le_refl _) _) (by simp))
  have K2 : Hid (Blk (w.heap.size + 1) (.cells #[a', b', c', d'] 31) w0) := by
    have := Blk.new (w.alloc (.cells #[a, b, c, d] 31)) (.cells #[a', b', c', d'] 31)
    rw [alloc_size] at this
    rw [hw0]; exact Lib.hid this
  have hsz : w.heap.size + 2 ≤ w0.heap.size := by rw [hw0]; simp
  go_enter Tryz.func14, Tryz.ntmps14
  go_wp2_with fail
  simp only [← hw0]
  clear hw0
  refine (sameInts_same _ _ _ _ _ _ D.first _ (HX.out.first.below HB0.out hh) (HY.out.first.below HB0.out hh') (by omega)).mono ?_
  rintro e w1 ⟨rfl, hb⟩
  have HB1 := Lib.hid (HB0.out.trans (hb.mono (by omega)))
  replace K1 := Lib.hid (K1.out.below hb (by omega)); replace K2 := Lib.hid (K2.out.below hb (by omega))
  have hs1 := hb.size
  have c0 := K1.out.cell 1
  have c1 := K2.out.cell 1
  clear hb
  go_wp2_with fail
  clear c0 c1
  refine (sameInts_same _ _ _ _ _ _ D.goal _ (HX.out.goal.below HB1.out hh) (HY.out.goal.below HB1.out hh') (by omega)).mono ?_
  rintro e w2 ⟨rfl, hb⟩
  have HB2 := Lib.hid (HB1.out.trans (hb.mono (by omega)))
  replace K1 := Lib.hid (K1.out.below hb (by omega)); replace K2 := Lib.hid (K2.out.below hb (by omega))
  have hs2 := hb.size
  have c0 := K1.out.cell 2
  have c1 := K2.out.cell 2
  clear hb
  go_wp2_with fail
  clear c0 c1
  refine (sameMoves_same _ _ _ _ _ _ D.made _ (HX.out.made.below HB2.out hh) (HY.out.made.below HB2.out hh') (by omega)).mono ?_
  rintro e w3 ⟨rfl, hb⟩
  have HB3 := Lib.hid (HB2.out.trans (hb.mono (by omega)))
  replace K1 := Lib.hid (K1.out.below hb (by omega)); replace K2 := Lib.hid (K2.out.below hb (by omega))
  have c0 := K1.out.cell 3
  have c1 := K2.out.cell 3
  clear hb
  go_wp2_with fail
  refine (sameInts_same _ _ _ _ _ _ D.now _ (HX.out.now.below HB3.out hh) (HY.out.now.below HB3.out hh') (by omega)).mono ?_
  rintro e w4 ⟨rfl, hb⟩
  have HB4 := Lib.hid (HB3.out.trans (hb.mono HB3.out.size))
  clear hb
  go_wp2
  go_ret
  exact ⟨rfl, HB4.out⟩

end

section

set_option maxHeartbeats 400000 in
theorem alive_any (w : World) : Calls Tryz.prog 15 #[] w fun e w' => e = .returned (.bool true) ∧ w = w' := by
  have h0 : bits .andNot .i64 15 0 = 15 := by decide
  have h1 : bits .andNot .i64 15 15 = 0 := by decide
  go_enter Tryz.func15, Tryz.ntmps15
  go_wp2
  go_ret
  exact ⟨rfl, rfl⟩
end
end Go.Proofs.YtipbanhelhidnaaGreatDoor
