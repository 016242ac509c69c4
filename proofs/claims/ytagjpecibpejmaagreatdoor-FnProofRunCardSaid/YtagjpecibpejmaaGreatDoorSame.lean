/-
  Texts of walks and plain lemmas for this seat; no condition.
-/
import Derived.Test.YtagjpecibpejmaaGreatDoorGA
import Derived.Test.YtagjpecibpejmaaGreatDoorGG
import Derived.Test.YtagjpecibpejmaaGreatDoorGK
namespace Go.Proofs.YtagjpecibpejmaaGreatDoor
open Go.RowKit

set_option maxHeartbeats 400000 in
theorem sameInts_any (lo hi lo' hi' : Nat) (v v' : Value) (xs ys : List Int) (w : World) (hx : SlI lo hi w v xs) (hy : SlI lo' hi' w v' ys) (hm : xs.length ≤ 1048576) :
    Calls Tryz.prog 14 #[v, v'] w fun e w' => e = .returned (.bool (eqL xs ys)) ∧ ∃ m, w' = w.drewN m := by
  obtain ⟨a, cap, rfl, hcap, hcm, hc⟩ := hx.open
  obtain ⟨a', cap', rfl, hcap', hcm', hc'⟩ := hy.open
  clear hx hcm hy hcm' hcap hcap'
  by_cases hl : xs.length = ys.length
  · have HL := Lib.hid hl
    have hl1 : ((xs.length : Int) != ys.length) = false := by simp [hl]
    have hm' : ys.length ≤ 1048576 := by omega
    clear hl
    go_enter Tryz.func14, Tryz.ntmps14
    go_wp2
    go_loopw [5] (fun i wr => ∃ k m : Nat, k ≤ xs.length ∧ i = .int .i64 k ∧ (∀ j (h1 : j < k) (h2 : j < xs.length) (h3 : j < ys.length), xs[j] = ys[j]) ∧ wr = w.drewN m) (fun i _ => xs.length - (intOf i).toNat)
    case atStart => exact ⟨0, 0, by omega, rfl, by intro j h; omega, rfl⟩
    case round =>
      obtain ⟨k, m, hk, rfl, hj, rfl⟩ := hrel
      have HJ := Lib.hid hj
      clear hj
      by_cases hlt : k < xs.length
      · have hlt' : k < ys.length := by have := HL.out; omega
        obtain ⟨b, off, rfl, _, _, hbs, hck⟩ := hc k hlt
        obtain ⟨b', off', rfl, _, _, hbs', hck'⟩ := hc' k hlt'
        clear hc hc'
        by_cases he : xs[k] = ys[k]
        · have HE := Lib.hid he
          have he1 : (xs[k] != ys[k]) = false := by simp [he]
          clear he
          go_wp2
          go_quiet (fail)
          go_wp2
          go_roundw
          case rel =>
            refine ⟨k + 1, m + nq, by omega, by go_num, ?_, by first | rfl | rw [World.drewN_drewN]⟩
            intro j h1 h2 h3
            rcases Nat.lt_or_ge j k with h | h
            · exact HJ.out j h h2 h3
            · obtain rfl : j = k := by omega
              exact HE.out
          case measure => simp [intOf]; omega
        · have HE := Lib.hid he
          have he1 : (xs[k] != ys[k]) = true := by simp [he]
          clear he
          go_wp2
          go_quiet (fail)
          go_wp2
          go_ret
          exact ⟨ret_bool (eqL_ne hlt hlt' HE.out).symm, m + nq, by first | rfl | rw [World.drewN_drewN]⟩
      · go_wp2
        go_ret
        exact ⟨ret_bool (eqL_all HL.out fun j h1 h2 => HJ.out j (by omega) h1 h2).symm, m, rfl⟩
  · have HL := Lib.hid hl
    have hl1 : ((xs.length : Int) != ys.length) = true := by simp; omega
    clear hl hc hc'
    go_enter Tryz.func14, Tryz.ntmps14
    go_wp2
    go_ret
    exact ⟨ret_bool (eqL_len HL.out).symm, 0, rfl⟩

theorem sameInts_same (lo hi lo' hi' : Nat) (v v' : Value) (xs : List Int) (w : World) (hx : SlI lo hi w v xs) (hy : SlI lo' hi' w v' xs) (hm : xs.length ≤ 1048576) :
    Calls Tryz.prog 14 #[v, v'] w fun e w' => e = .returned (.bool true) ∧ Below w.heap.size w w' := by
  refine (sameInts_any lo hi lo' hi' v v' xs xs w hx hy hm).mono ?_
  rintro e w' ⟨rfl, m, rfl⟩
  rw [eqL_same]
  exact ⟨rfl, below_drewN (Below.refl _ _) _⟩
theorem sameMoves_nil (lo hi lo' hi' : Nat) (v v' : Value) (w : World) (hx : SlM lo hi w v []) (hy : SlM lo' hi' w v' []) :
    Calls Tryz.prog 22 #[v, v'] w fun e w' => e = .returned (.bool true) ∧ Below w.heap.size w w' := by
  obtain ⟨a, cap, rfl, _, _⟩ := hx.shape
  obtain ⟨a', cap', rfl, _, _⟩ := hy.shape
  clear hx hy
  go_enter Tryz.func22, Tryz.ntmps22
  go_wp2
  go_loopw [5] (fun i wr => i = .int .i64 0 ∧ wr = w) (fun _ _ => 0)
  case atStart => exact ⟨rfl, rfl⟩
  case round =>
    obtain ⟨rfl, rfl⟩ := hrel
    go_wp2
    go_ret
    exact ⟨rfl, Below.refl _ _⟩

set_option maxHeartbeats 1600000 in
theorem sameDesk_same (lo hi lo' hi' : Nat) (a b c d a' b' c' d' : Value) (D : Dsk) (w : World) (hx : DeskAt lo hi w a b c d D) (hy : DeskAt lo' hi' w a' b' c' d' D) (hh : hi ≤ w.heap.size) (hh' : hi' ≤ w.heap.size) (hm : D.size ≤ 1048576) (hz : D.made = []) :
    Calls Tryz.prog 42 #[aggD a b c d, aggD a' b' c' d'] w fun e w' => e = .returned (.bool true) ∧ Below w.heap.size w w' := by
  unfold Dsk.size at hm
  have HM : Hid (∀ {lo hi : Nat} {w : World} {v : Value}, SlM lo hi w v D.made → SlM lo hi w v []) := Lib.hid (by rw [hz]; exact fun h => h)
  clear hz
  have HX := Lib.hid hx
  have HY := Lib.hid hy
  clear hx hy
  obtain ⟨w0, hw0⟩ : ∃ w0, w0 = (w.alloc (.cells #[a, b, c, d] 58)).alloc (.cells #[a', b', c', d'] 58) := ⟨_, rfl⟩
  have HB0 : Hid (Below w.heap.size w w0) := by rw [hw0]; exact Lib.hid (((Below.refl _ _).alloc (Nat.le_refl _) _).alloc (by simp) _)
  have K1 : Hid (Blk w.heap.size (.cells #[a, b, c, d] 58) w0) := by
    rw [hw0]; exact Lib.hid ((Blk.new w _).below ((Below.refl (w.alloc _).heap.size _).alloc (Nat.le_refl _) _) (by simp))
  have K2 : Hid (Blk (w.heap.size + 1) (.cells #[a', b', c', d'] 58) w0) := by
    have := Blk.new (w.alloc (.cells #[a, b, c, d] 58)) (.cells #[a', b', c', d'] 58)
    rw [alloc_size] at this
    rw [hw0]; exact Lib.hid this
  have hsz : w.heap.size + 2 ≤ w0.heap.size := by rw [hw0]; simp
  go_enter Tryz.func42, Tryz.ntmps42
  go_wp2_with fail
  simp only [← hw0]
  clear hw0
  refine (sameInts_same _ _ _ _ _ _ D.first _ (HX.out.first.below HB0.out hh) (HY.out.first.below HB0.out hh') (by omega)).mono ?_
  rintro e w1 ⟨rfl, hb⟩
  have HB1 := Lib.hid (HB0.out.trans (hb.mono (by omega)))
  replace K1 := Lib.hid (K1.out.below hb (by omega)); replace K2 := Lib.hid (K2.out.below hb (by omega))
  have hs1 := hb.size
  have c0 := K1.out.cell 1
  have c1 := K2.out.cell 1
  clear hb
  go_wp2_with fail
  clear c0 c1
  refine (sameInts_same _ _ _ _ _ _ D.goal _ (HX.out.goal.below HB1.out hh) (HY.out.goal.below HB1.out hh') (by omega)).mono ?_
  rintro e w2 ⟨rfl, hb⟩
  have HB2 := Lib.hid (HB1.out.trans (hb.mono (by omega)))
  replace K1 := Lib.hid (K1.out.below hb (by omega)); replace K2 := Lib.hid (K2.out.below hb (by omega))
  have hs2 := hb.size
  have c0 := K1.out.cell 2
  have c1 := K2.out.cell 2
  clear hb
  go_wp2_with fail
  clear c0 c1
  refine (sameMoves_nil _ _ _ _ _ _ _ (HM.out (HX.out.made.below HB2.out hh)) (HM.out (HY.out.made.below HB2.out hh'))).mono ?_
  rintro e w3 ⟨rfl, hb⟩
  have HB3 := Lib.hid (HB2.out.trans (hb.mono (by omega)))
  replace K1 := Lib.hid (K1.out.below hb (by omega)); replace K2 := Lib.hid (K2.out.below hb (by omega))
  have c0 := K1.out.cell 3
  have c1 := K2.out.cell 3
  clear hb
  go_wp2_with fail
  refine (sameInts_same _ _ _ _ _ _ D.now _ (HX.out.now.below HB3.out hh) (HY.out.now.below HB3.out hh') (by omega)).mono ?_
  rintro e w4 ⟨rfl, hb⟩
  have HB4 := Lib.hid (HB3.out.trans (hb.mono HB3.out.size))
  clear hb
  go_wp2
  go_ret
  exact ⟨rfl, HB4.out⟩
end Go.Proofs.YtagjpecibpejmaaGreatDoor
