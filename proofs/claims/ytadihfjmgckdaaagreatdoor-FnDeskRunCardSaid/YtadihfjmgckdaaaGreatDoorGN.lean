/-
  Texts of walks and plain lemmas for this seat; no condition.
-/
import Derived.Test.YtadihfjmgckdaaaGreatDoorGA
import Derived.Test.YtadihfjmgckdaaaGreatDoorGB
import Derived.Test.YtadihfjmgckdaaaGreatDoorGG
import Derived.Test.YtadihfjmgckdaaaGreatDoorGK
import Derived.Test.YtadihfjmgckdaaaGreatDoorRows
import Derived.Deep.QuietTactic
import Derived.BigQuiet
import Derived.Laws.StructEq
namespace Go.Proofs.YtadihfjmgckdaaaGreatDoor
open Go.RowKit
section

end

section

set_option maxHeartbeats 400000 in
theorem sameInts_any (lo hi lo' hi' : Nat) (v v' : Value) (xs ys : List Int) (w : World) (hx : SlI lo hi w v xs) (hy : SlI lo' hi' w v' ys) (hm : xs.length ≤ 1048576) :
    Calls Tryz.prog 11 #[v, v'] w fun e w' => e = .returned (.bool (eqL xs ys)) ∧ ∃ m, w' = w.drewN m := by
  obtain ⟨a, cap, rfl, hcap, hcm, hc⟩ := hx.open
  obtain ⟨a', cap', rfl, hcap', hcm', hc'⟩ := hy.open
  clear hx hcm hy hcm' hcap hcap'
  by_cases hl : xs.length = ys.length
  · have HL := Lib.hid hl
    have hl1 : ((xs.length : Int) != ys.length) = false := by simp [hl]
    have hm' : ys.length ≤ 1048576 := by omega
    clear hl
    go_enter Tryz.func11, Tryz.ntmps11
    go_wp2
    go_loopw [5] (fun i wr => ∃ k m : Nat, k ≤ xs.length ∧ i = .int .i64 k ∧ (∀ j (h1 : j < k) (h2 : j < xs.length) (h3 : j < ys.length), xs[j] = ys[j]) ∧ wr = w.drewN m) (fun i _ => xs.length - (intOf i).toNat)
    case atStart => exact ⟨0, 0, by omega, rfl, by intro j h; omega, rfl⟩
    case round =>
      obtain ⟨k, m, hk, rfl, hj, rfl⟩ := hrel
      have HJ := Lib.hid hj
      clear hj
      by_cases hlt : k < xs.length
      · have hlt' : k < ys.length := by have := HL.out; omega
        obtain ⟨b, off, rfl, _, _, hbs, hck⟩ := hc k hlt
        obtain ⟨b', off', rfl, _, _, hbs', hck'⟩ := hc' k hlt'
        clear hc hc'
        by_cases he : xs[k] = ys[k]
        · have HE := Lib.hid he
          have he1 : (xs[k] != ys[k]) = false := by simp [he]
          clear he
          go_wp2
          go_quiet (fail)
          go_wp2
          go_roundw
          case rel =>
            refine ⟨k + 1, m + nq, by omega, by go_num, ?_, by first | rfl | rw [World.drewN_drewN]⟩
            intro j h1 h2 h3
            rcases Nat.lt_or_ge j k with h | h
            · exact HJ.out j h h2 h3
            · obtain rfl : j = k := by omega
              exact HE.out
          case measure => simp [intOf]; omega
        · have HE := Lib.hid he
          have he1 : (xs[k] != ys[k]) = true := by simp [he]
          clear he
          go_wp2
          go_quiet (fail)
          go_wp2
          go_ret
          exact ⟨ret_bool (eqL_ne hlt hlt' HE.out).symm, m + nq, by first | rfl | rw [World.drewN_drewN]⟩
      · go_wp2
        go_ret
        exact ⟨ret_bool (eqL_all HL.out fun j h1 h2 => HJ.out j (by omega) h1 h2).symm, m, rfl⟩
  · have HL := Lib.hid hl
    have hl1 : ((xs.length : Int) != ys.length) = true := by simp; omega
    clear hl hc hc'
    go_enter Tryz.func11, Tryz.ntmps11
    go_wp2
    go_ret
    exact ⟨ret_bool (eqL_len HL.out).symm, 0, rfl⟩

theorem sameInts_same (lo hi lo' hi' : Nat) (v v' : Value) (xs : List Int) (w : World) (hx : SlI lo hi w v xs) (hy : SlI lo' hi' w v' xs) (hm : xs.length ≤ 1048576) :
    Calls Tryz.prog 11 #[v, v'] w fun e w' => e = .returned (.bool true) ∧ Below w.heap.size w w' := by
  refine (sameInts_any lo hi lo' hi' v v' xs xs w hx hy hm).mono ?_
  rintro e w' ⟨rfl, m, rfl⟩
  rw [eqL_same]
  exact ⟨rfl, below_drewN (Below.refl _ _) _⟩
theorem sameMoves_nil (lo hi lo' hi' : Nat) (v v' : Value) (w : World) (hx : SlM lo hi w v []) (hy : SlM lo' hi' w v' []) :
    Calls Tryz.prog 59 #[v, v'] w fun e w' => e = .returned (.bool true) ∧ Below w.heap.size w w' := by
  obtain ⟨a, cap, rfl, _, _⟩ := hx.shape
  obtain ⟨a', cap', rfl, _, _⟩ := hy.shape
  clear hx hy
  go_enter Tryz.func59, Tryz.ntmps59
  go_wp2
  go_loopw [5] (fun i wr => i = .int .i64 0 ∧ wr = w) (fun _ _ => 0)
  case atStart => exact ⟨rfl, rfl⟩
  case round =>
    obtain ⟨rfl, rfl⟩ := hrel
    go_wp2
    go_ret
    exact ⟨rfl, Below.refl _ _⟩

set_option maxHeartbeats 1600000 in
theorem sameDesk_same (lo hi lo' hi' : Nat) (a b c d a' b' c' d' : Value) (D : Dsk) (w : World) (hx : DeskAt lo hi w a b c d D) (hy : DeskAt lo' hi' w a' b' c' d' D) (hh : hi ≤ w.heap.size) (hh' : hi' ≤ w.heap.size) (hm : D.size ≤ 1048576) (hz : D.made = []) :
    Calls Tryz.prog 21 #[aggD a b c d, aggD a' b' c' d'] w fun e w' => e = .returned (.bool true) ∧ Below w.heap.size w w' := by
  unfold Dsk.size at hm
  have HM : Hid (∀ {lo hi : Nat} {w : World} {v : Value}, SlM lo hi w v D.made → SlM lo hi w v []) := Lib.hid (by rw [hz]; exact fun h => h)
  clear hz
  have HX := Lib.hid hx
  have HY := Lib.hid hy
  clear hx hy
  obtain ⟨w0, hw0⟩ : ∃ w0, w0 = (w.alloc (.cells #[a, b, c, d] 38)).alloc (.cells #[a', b', c', d'] 38) := ⟨_, rfl⟩
  have HB0 : Hid (Below w.heap.size w w0) := by rw [hw0]; exact Lib.hid (((Below.refl _ _).alloc (Nat.le_refl _) _).alloc (by simp) _)
  have K1 : Hid (Blk w.heap.size (.cells #[a, b, c, d] 38) w0) := by
    rw [hw0]; exact Lib.hid ((Blk.new w _).below ((Below.refl (w.alloc _).heap.size _).alloc (Nat.le_refl _) _) (by simp))
  have K2 : Hid (Blk (w.heap.size + 1) (.cells #[a', b', c', d'] 38) w0) := by
    have := Blk.new (w.alloc (.cells #[a, b, c, d] 38)) (.cells #[a', b', c', d'] 38)
    rw [alloc_size] at this
    rw [hw0]; exact Lib.hid this
  have hsz : w.heap.size + 2 ≤ w0.heap.size := by rw [hw0]; simp
  go_enter Tryz.func21, Tryz.ntmps21
  go_wp2_with fail
  simp only [← hw0]
  clear hw0
  refine (sameInts_same _ _ _ _ _ _ D.first _ (HX.out.first.below HB0.out hh) (HY.out.first.below HB0.out hh') (by omega)).mono ?_
  rintro e w1 ⟨rfl, hb⟩
  have HB1 := Lib.hid (HB0.out.trans (hb.mono (by omega)))
  replace K1 := Lib.hid (K1.out.below hb (by omega)); replace K2 := Lib.hid (K2.out.below hb (by omega))
  have hs1 := hb.size
  have c0 := K1.out.cell 1
  have c1 := K2.out.cell 1
  clear hb
  go_wp2_with fail
  clear c0 c1
  refine (sameInts_same _ _ _ _ _ _ D.goal _ (HX.out.goal.below HB1.out hh) (HY.out.goal.below HB1.out hh') (by omega)).mono ?_
  rintro e w2 ⟨rfl, hb⟩
  have HB2 := Lib.hid (HB1.out.trans (hb.mono (by omega)))
  replace K1 := Lib.hid (K1.out.below hb (by omega)); replace K2 := Lib.hid (K2.out.below hb (by omega))
  have hs2 := hb.size
  have c0 := K1.out.cell 2
  have c1 := K2.out.cell 2
  clear hb
  go_wp2_with fail
  clear c0 c1
  refine (sameMoves_nil _ _ _ _ _ _ _ (HM.out (HX.out.made.below HB2.out hh)) (HM.out (HY.out.made.below HB2.out hh'))).mono ?_
  rintro e w3 ⟨rfl, hb⟩
  have HB3 := Lib.hid (HB2.out.trans (hb.mono (by omega)))
  replace K1 := Lib.hid (K1.out.below hb (by omega)); replace K2 := Lib.hid (K2.out.below hb (by omega))
  have c0 := K1.out.cell 3
  have c1 := K2.out.cell 3
  clear hb
  go_wp2_with fail
  refine (sameInts_same _ _ _ _ _ _ D.now _ (HX.out.now.below HB3.out hh) (HY.out.now.below HB3.out hh') (by omega)).mono ?_
  rintro e w4 ⟨rfl, hb⟩
  have HB4 := Lib.hid (HB3.out.trans (hb.mono HB3.out.size))
  clear hb
  go_wp2
  go_ret
  exact ⟨rfl, HB4.out⟩


/-- noDesk of the zero desk. -/
theorem noDesk_zero (a b c d : Value) (w : World) (lo hi : Nat) (hx : DeskAt lo hi w a b c d ⟨[], [], [], []⟩) (hh : hi ≤ w.heap.size) :
    Calls Tryz.prog 23 #[aggD a b c d] w fun e w' => e = .returned (.bool true) ∧ Below w.heap.size w w' := by
  obtain ⟨w0, hw0⟩ : ∃ w0, w0 = w.alloc (.cells #[a, b, c, d] 38) := ⟨_, rfl⟩
  have HB : Hid (Below w.heap.size w w0) := by rw [hw0]; exact Lib.hid ((Below.refl _ _).alloc (Nat.le_refl _) _)
  have HX := Lib.hid (hx.below HB.out hh)
  have hsz : w.heap.size ≤ w0.heap.size := HB.out.size
  clear hx
  go_enter Tryz.func23, Tryz.ntmps23
  go_wp2_with fail
  simp only [← hw0]
  clear hw0
  refine (sameDesk_same lo hi 0 w0.heap.size a b c d (.slice none 0 0) (.slice none 0 0) (.slice none 0 0) (.slice none 0 0) ⟨[], [], [], []⟩ _ HX.out ((DeskOwn.nils 0 _ (Nat.zero_le _) _).at) (by omega) (Nat.le_refl _) (by simp [Dsk.size]) rfl).mono ?_
  rintro e w1 ⟨rfl, hb⟩
  go_wp2
  go_ret
  exact ⟨rfl, HB.out.trans (hb.mono hsz)⟩
end

section

set_option maxHeartbeats 800000 in
theorem sameMoves_same (lo hi lo' hi' : Nat) (v v' : Value) (xs : List Mv) (w : World) (hx : SlM lo hi w v xs) (hy : SlM lo' hi' w v' xs) (hm : xs.length ≤ 1048576) :
    Calls Tryz.prog 59 #[v, v'] w fun e w' => e = .returned (.bool true) ∧ Below w.heap.size w w' := by
  have HX := Lib.hid hx
  have HY := Lib.hid hy
  obtain ⟨a, cap, rfl, _, hcm⟩ := hx.shape
  obtain ⟨a', cap', rfl, _, hcm'⟩ := hy.shape
  clear hx hy hcm hcm'
  have hl1 : ((xs.length : Int) != xs.length) = false := by simp
  go_enter Tryz.func59, Tryz.ntmps59
  go_wp2
  go_loopw [5] (fun i wr => ∃ k m : Nat, k ≤ xs.length ∧ i = .int .i64 k ∧ wr = w.drewN m) (fun i _ => xs.length - (intOf i).toNat)
  case atStart => exact ⟨0, 0, by omega, rfl, rfl⟩
  case round =>
    obtain ⟨k, m, hk, rfl, rfl⟩ := hrel
    by_cases hlt : k < xs.length
    · obtain ⟨b, off, rfl, _, _, hbs, c1, c2, c3⟩ := HX.out.get k hlt
      obtain ⟨b', off', rfl, _, _, hbs', c1', c2', c3'⟩ := HY.out.get k hlt
      obtain ⟨p, q, r, hp, hq, hr⟩ : ∃ p q r, p = xs[k].which ∧ q = xs[k].back ∧ r = xs[k].at_ := ⟨_, _, _, rfl, rfl, rfl⟩
      rw [← hp] at c1 c1'
      rw [← hq] at c2 c2'
      rw [← hr] at c3 c3'
      clear hp hq hr
      have e1 : (p == p) = true := by simp
      have e2 : (q == q) = true := by simp
      have e3 : (r == r) = true := by simp
      go_wp2
      go_quiet (fail)
      go_wp2
      go_roundw
      case rel => exact ⟨k + 1, m + nq, by omega, by go_num, by first | rfl | rw [World.drewN_drewN]⟩
      case measure => simp [intOf]; omega
    · go_wp2
      go_ret
      exact ⟨rfl, below_drewN (Below.refl _ _) _⟩
theorem sameMoves_len (lo hi lo' hi' : Nat) (v v' : Value) (xs ys : List Mv) (w : World) (hx : SlM lo hi w v xs) (hy : SlM lo' hi' w v' ys) (h : xs.length ≠ ys.length) :
    Calls Tryz.prog 59 #[v, v'] w fun e w' => e = .returned (.bool false) ∧ Below w.heap.size w w' := by
  obtain ⟨a, cap, rfl, _, _⟩ := hx.shape
  obtain ⟨a', cap', rfl, _, _⟩ := hy.shape
  have hl1 : ((xs.length : Int) != ys.length) = true := by simp; omega
  clear hx hy h
  go_enter Tryz.func59, Tryz.ntmps59
  go_wp2
  go_ret
  exact ⟨rfl, Below.refl _ _⟩

set_option maxHeartbeats 1600000 in
theorem sameDesk_eq (lo hi lo' hi' : Nat) (a b c d a' b' c' d' : Value) (D : Dsk) (w : World) (hx : DeskAt lo hi w a b c d D) (hy : DeskAt lo' hi' w a' b' c' d' D) (hh : hi ≤ w.heap.size) (hh' : hi' ≤ w.heap.size) (hm : D.size ≤ 1048576) :
    Calls Tryz.prog 21 #[aggD a b c d, aggD a' b' c' d'] w fun e w' => e = .returned (.bool true) ∧ Below w.heap.size w w' := by
  unfold Dsk.size at hm
  have HX := Lib.hid hx
  have HY := Lib.hid hy
  clear hx hy
  obtain ⟨w0, hw0⟩ : ∃ w0, w0 = (w.alloc (.cells #[a, b, c, d] 38)).alloc (.cells #[a', b', c', d'] 38) := ⟨_, rfl⟩
  have HB0 : Hid (Below w.heap.size w w0) := by rw [hw0]; exact Lib.hid (((Below.refl _ _).alloc (Nat.le_refl _) _).alloc (by simp) _)
  have K1 : Hid (Blk w.heap.size (.cells #[a, b, c, d] 38) w0) := by
    rw [hw0]; exact Lib.hid ((Blk.new w _).below ((Below.refl (w.alloc _).heap.size _).alloc (Nat.le_refl _) _) (by simp))
  have K2 : Hid (Blk (w.heap.size + 1) (.cells #[a', b', c', d'] 38) w0) := by
    have := Blk.new (w.alloc (.cells #[a, b, c, d] 38)) (.cells #[a', b', c', d'] 38)
    rw [alloc_size] at this
    rw [hw0]; exact Lib.hid this
  have hsz : w.heap.size + 2 ≤ w0.heap.size := by rw [hw0]; simp
  go_enter Tryz.func21, Tryz.ntmps21
  go_wp2_with fail
  simp only [← hw0]
  clear hw0
  refine (sameInts_same _ _ _ _ _ _ D.first _ (HX.out.first.below HB0.out hh) (HY.out.first.below HB0.out hh') (by omega)).mono ?_
  rintro e w1 ⟨rfl, hb⟩
  have HB1 := Lib.hid (HB0.out.trans (hb.mono (by omega)))
  replace K1 := Lib.hid (K1.out.below hb (by omega)); replace K2 := Lib.hid (K2.out.below hb (by omega))
  have hs1 := hb.size
  have c0 := K1.out.cell 1
  have c1 := K2.out.cell 1
  clear hb
  go_wp2_with fail
  clear c0 c1
  refine (sameInts_same _ _ _ _ _ _ D.goal _ (HX.out.goal.below HB1.out hh) (HY.out.goal.below HB1.out hh') (by omega)).mono ?_
  rintro e w2 ⟨rfl, hb⟩
  have HB2 := Lib.hid (HB1.out.trans (hb.mono (by omega)))
  replace K1 := Lib.hid (K1.out.below hb (by omega)); replace K2 := Lib.hid (K2.out.below hb (by omega))
  have hs2 := hb.size
  have c0 := K1.out.cell 2
  have c1 := K2.out.cell 2
  clear hb
  go_wp2_with fail
  clear c0 c1
  refine (sameMoves_same _ _ _ _ _ _ D.made _ (HX.out.made.below HB2.out hh) (HY.out.made.below HB2.out hh') (by omega)).mono ?_
  rintro e w3 ⟨rfl, hb⟩
  have HB3 := Lib.hid (HB2.out.trans (hb.mono (by omega)))
  replace K1 := Lib.hid (K1.out.below hb (by omega)); replace K2 := Lib.hid (K2.out.below hb (by omega))
  have c0 := K1.out.cell 3
  have c1 := K2.out.cell 3
  clear hb
  go_wp2_with fail
  refine (sameInts_same _ _ _ _ _ _ D.now _ (HX.out.now.below HB3.out hh) (HY.out.now.below HB3.out hh') (by omega)).mono ?_
  rintro e w4 ⟨rfl, hb⟩
  have HB4 := Lib.hid (HB3.out.trans (hb.mono HB3.out.size))
  clear hb
  go_wp2
  go_ret
  exact ⟨rfl, HB4.out⟩

set_option maxHeartbeats 1600000 in
theorem sameDesk_ne (lo hi lo' hi' : Nat) (a b c d a' b' c' d' : Value) (D E : Dsk) (w : World) (hx : DeskAt lo hi w a b c d D) (hy : DeskAt lo' hi' w a' b' c' d' E) (hh : hi ≤ w.heap.size) (hh' : hi' ≤ w.heap.size) (hm : D.size ≤ 1048576) (h1 : E.first = D.first) (h2 : E.goal = D.goal) (h3 : E.made.length ≠ D.made.length) :
    Calls Tryz.prog 21 #[aggD a b c d, aggD a' b' c' d'] w fun e w' => e = .returned (.bool false) ∧ Below w.heap.size w w' := by
  unfold Dsk.size at hm
  have HF := Lib.hid (h1 ▸ hy.first)
  have HG := Lib.hid (h2 ▸ hy.goal)
  have H3 := Lib.hid h3
  clear h1 h2 h3
  have HX := Lib.hid hx
  have HY := Lib.hid hy
  clear hx hy
  obtain ⟨w0, hw0⟩ : ∃ w0, w0 = (w.alloc (.cells #[a, b, c, d] 38)).alloc (.cells #[a', b', c', d'] 38) := ⟨_, rfl⟩
  have HB0 : Hid (Below w.heap.size w w0) := by rw [hw0]; exact Lib.hid (((Below.refl _ _).alloc (Nat.le_refl _) _).alloc (by simp) _)
  have K1 : Hid (Blk w.heap.size (.cells #[a, b, c, d] 38) w0) := by
    rw [hw0]; exact Lib.hid ((Blk.new w _).below ((Below.refl (w.alloc _).heap.size _).alloc (Nat.le_refl _) _) (by simp))
  have K2 : Hid (Blk (w.heap.size + 1) (.cells #[a', b', c', d'] 38) w0) := by
    have := Blk.new (w.alloc (.cells #[a, b, c, d] 38)) (.cells #[a', b', c', d'] 38)
    rw [alloc_size] at this
    rw [hw0]; exact Lib.hid this
  have hsz : w.heap.size + 2 ≤ w0.heap.size := by rw [hw0]; simp
  go_enter Tryz.func21, Tryz.ntmps21
  go_wp2_with fail
  simp only [← hw0]
  clear hw0
  refine (sameInts_same _ _ _ _ _ _ D.first _ (HX.out.first.below HB0.out hh) (HF.out.below HB0.out hh') (by omega)).mono ?_
  rintro e w1 ⟨rfl, hb⟩
  have HB1 := Lib.hid (HB0.out.trans (hb.mono (by omega)))
  replace K1 := Lib.hid (K1.out.below hb (by omega)); replace K2 := Lib.hid (K2.out.below hb (by omega))
  have hs1 := hb.size
  have c0 := K1.out.cell 1
  have c1 := K2.out.cell 1
  clear hb
  go_wp2_with fail
  clear c0 c1
  refine (sameInts_same _ _ _ _ _ _ D.goal _ (HX.out.goal.below HB1.out hh) (HG.out.below HB1.out hh') (by omega)).mono ?_
  rintro e w2 ⟨rfl, hb⟩
  have HB2 := Lib.hid (HB1.out.trans (hb.mono (by omega)))
  replace K1 := Lib.hid (K1.out.below hb (by omega)); replace K2 := Lib.hid (K2.out.below hb (by omega))
  have hs2 := hb.size
  have c0 := K1.out.cell 2
  have c1 := K2.out.cell 2
  clear hb
  go_wp2_with fail
  clear c0 c1
  refine (sameMoves_len _ _ _ _ _ _ D.made E.made _ (HX.out.made.below HB2.out hh) (HY.out.made.below HB2.out hh') (Ne.symm H3.out)).mono ?_
  rintro e w3 ⟨rfl, hb⟩
  have HB3 := Lib.hid (HB2.out.trans (hb.mono (by omega)))
  clear hb
  go_wp2
  go_ret
  exact ⟨rfl, HB3.out⟩

set_option maxHeartbeats 1600000 in
/-- Moves are compared: some truth comes back. -/
theorem sameMoves_some (lo hi lo' hi' : Nat) (v v' : Value) (xs ys : List Mv) (w : World) (hx : SlM lo hi w v xs) (hy : SlM lo' hi' w v' ys) (hm : xs.length ≤ 1048576) :
    Calls Tryz.prog 59 #[v, v'] w (RetB fun _ w' => Below w.heap.size w w') := by
  have HX := Lib.hid hx
  have HY := Lib.hid hy
  obtain ⟨a, cap, rfl, _, hcm⟩ := hx.shape
  obtain ⟨a', cap', rfl, _, hcm'⟩ := hy.shape
  clear hx hy hcm hcm'
  by_cases hl : xs.length = ys.length
  · have hl1 : ((xs.length : Int) != ys.length) = false := by simp [hl]
    have HL := Lib.hid hl
    have hm' : ys.length ≤ 1048576 := by omega
    clear hl
    go_enter Tryz.func59, Tryz.ntmps59
    go_wp2
    go_loopw [5] (fun i wr => ∃ k m : Nat, k ≤ xs.length ∧ i = .int .i64 k ∧ wr = w.drewN m) (fun i _ => xs.length - (intOf i).toNat)
    case atStart => exact ⟨0, 0, by omega, rfl, rfl⟩
    case round =>
      obtain ⟨k, m, hk, rfl, rfl⟩ := hrel
      by_cases hlt : k < xs.length
      · have hlt' : k < ys.length := by have := HL.out; omega
        obtain ⟨b, off, rfl, _, _, hbs, c1, c2, c3⟩ := HX.out.get k hlt
        obtain ⟨b', off', rfl, _, _, hbs', c1', c2', c3'⟩ := HY.out.get k hlt'
        obtain ⟨p, q, r, hp, hq, hr⟩ : ∃ p q r, p = xs[k].which ∧ q = xs[k].back ∧ r = xs[k].at_ := ⟨_, _, _, rfl, rfl, rfl⟩
        obtain ⟨p', q', r', hp', hq', hr'⟩ : ∃ p q r, p = ys[k].which ∧ q = ys[k].back ∧ r = ys[k].at_ := ⟨_, _, _, rfl, rfl, rfl⟩
        rw [← hp] at c1
        rw [← hq] at c2
        rw [← hr] at c3
        rw [← hp'] at c1'
        rw [← hq'] at c2'
        rw [← hr'] at c3'
        clear hp hq hr hp' hq' hr'
        cases e1 : p == p' <;> cases e2 : q == q' <;> cases e3 : r == r'
        all_goals (
          go_wp2
          go_quiet (fail)
          go_wp2
          first
            | (go_ret
               exact RetB.mk _ rfl (below_drewN (Below.refl _ _) _))
            | (go_ret
               exact RetB.mk _ rfl (below_drewN (below_drewN (Below.refl _ _) _) _))
            | (go_roundw
               case rel => exact ⟨k + 1, m + nq, by omega, by go_num, by first | rfl | rw [World.drewN_drewN]⟩
               case measure => simp [intOf]; omega))
      · go_wp2
        go_ret
        exact RetB.mk _ rfl (below_drewN (Below.refl _ _) _)
  · refine (sameMoves_len lo hi lo' hi' _ _ xs ys w HX.out HY.out hl).mono ?_
    rintro e w' ⟨rfl, hb⟩
    exact RetB.mk _ rfl hb

set_option maxHeartbeats 1600000 in
/-- Desks are compared: some truth comes back. -/
theorem sameDesk_some (lo hi lo' hi' : Nat) (a b c d a' b' c' d' : Value) (D E : Dsk) (w : World) (hx : DeskAt lo hi w a b c d D) (hy : DeskAt lo' hi' w a' b' c' d' E) (hh : hi ≤ w.heap.size) (hh' : hi' ≤ w.heap.size) (hm : D.size ≤ 1048576) :
    Calls Tryz.prog 21 #[aggD a b c d, aggD a' b' c' d'] w (RetB fun _ w' => Below w.heap.size w w') := by
  unfold Dsk.size at hm
  have HX := Lib.hid hx
  have HY := Lib.hid hy
  clear hx hy
  obtain ⟨w0, hw0⟩ : ∃ w0, w0 = (w.alloc (.cells #[a, b, c, d] 38)).alloc (.cells #[a', b', c', d'] 38) := ⟨_, rfl⟩
  have HB0 : Hid (Below w.heap.size w w0) := by rw [hw0]; exact Lib.hid (((Below.refl _ _).alloc (Nat.le_refl _) _).alloc (by simp) _)
  have K1 : Hid (Blk w.heap.size (.cells #[a, b, c, d] 38) w0) := by
    rw [hw0]; exact Lib.hid ((Blk.new w _).below ((Below.refl (w.alloc _).heap.size _).alloc (Nat.le_refl _) _) (by simp))
  have K2 : Hid (Blk (w.heap.size + 1) (.cells #[a', b', c', d'] 38) w0) := by
    have := Blk.new (w.alloc (.cells #[a, b, c, d] 38)) (.cells #[a', b', c', d'] 38)
    rw [alloc_size] at this
    rw [hw0]; exact Lib.hid this
  have hsz : w.heap.size + 2 ≤ w0.heap.size := by rw [hw0]; simp
  go_enter Tryz.func21, Tryz.ntmps21
  go_wp2_with fail
  simp only [← hw0]
  clear hw0
  refine (sameInts_any _ _ _ _ _ _ D.first E.first _ (HX.out.first.below HB0.out hh) (HY.out.first.below HB0.out hh') (by omega)).mono ?_
  rintro e w1 ⟨rfl, m1, hw1⟩
  have hb : Below w0.heap.size w0 w1 := by rw [hw1]; exact below_drewN (Below.refl _ _) _
  have HB1 := Lib.hid (HB0.out.trans (hb.mono (by omega)))
  replace K1 := Lib.hid (K1.out.below hb (by omega)); replace K2 := Lib.hid (K2.out.below hb (by omega))
  have hs1 := hb.size
  have c0 := K1.out.cell 1
  have c1 := K2.out.cell 1
  clear hb hw1
  obtain ⟨t1, ht1⟩ : ∃ t, t = eqL D.first E.first := ⟨_, rfl⟩
  rw [← ht1]
  clear ht1
  cases t1
  · go_wp2
    go_ret
    exact RetB.mk _ rfl HB1.out
  go_wp2_with fail
  clear c0 c1
  refine (sameInts_any _ _ _ _ _ _ D.goal E.goal _ (HX.out.goal.below HB1.out hh) (HY.out.goal.below HB1.out hh') (by omega)).mono ?_
  rintro e w2 ⟨rfl, m2, hw2⟩
  have hb : Below w1.heap.size w1 w2 := by rw [hw2]; exact below_drewN (Below.refl _ _) _
  have HB2 := Lib.hid (HB1.out.trans (hb.mono (by omega)))
  replace K1 := Lib.hid (K1.out.below hb (by omega)); replace K2 := Lib.hid (K2.out.below hb (by omega))
  have hs2 := hb.size
  have c0 := K1.out.cell 2
  have c1 := K2.out.cell 2
  clear hb hw2
  obtain ⟨t2, ht2⟩ : ∃ t, t = eqL D.goal E.goal := ⟨_, rfl⟩
  rw [← ht2]
  clear ht2
  cases t2
  · go_wp2
    go_ret
    exact RetB.mk _ rfl HB2.out
  go_wp2_with fail
  clear c0 c1
  refine (sameMoves_some _ _ _ _ _ _ D.made E.made _ (HX.out.made.below HB2.out hh) (HY.out.made.below HB2.out hh') (by omega)).mono ?_
  rintro e w3 ⟨t3, rfl, hb⟩
  have HB3 := Lib.hid (HB2.out.trans (hb.mono (by omega)))
  replace K1 := Lib.hid (K1.out.below hb (by omega)); replace K2 := Lib.hid (K2.out.below hb (by omega))
  have hs3 := hb.size
  have c0 := K1.out.cell 3
  have c1 := K2.out.cell 3
  clear hb
  cases t3
  · go_wp2
    go_ret
    exact RetB.mk _ rfl HB3.out
  go_wp2_with fail
  refine (sameInts_any _ _ _ _ _ _ D.now E.now _ (HX.out.now.below HB3.out hh) (HY.out.now.below HB3.out hh') (by omega)).mono ?_
  rintro e w4 ⟨rfl, m4, hw4⟩
  have hb : Below w3.heap.size w3 w4 := by rw [hw4]; exact below_drewN (Below.refl _ _) _
  have HB4 := Lib.hid (HB3.out.trans (hb.mono HB3.out.size))
  clear hb hw4
  go_wp2
  go_ret
  exact RetB.mk _ rfl HB4.out
end

section

set_option maxHeartbeats 400000 in
theorem alive_any (w : World) : Calls Tryz.prog 14 #[] w fun e w' => e = .returned (.bool true) ∧ w = w' := by
  have h0 : bits .andNot .i64 15 0 = 15 := by decide
  have h1 : bits .andNot .i64 15 15 = 0 := by decide
  go_enter Tryz.func14, Tryz.ntmps14
  go_wp2
  go_ret
  exact ⟨rfl, rfl⟩
end
end Go.Proofs.YtadihfjmgckdaaaGreatDoor
