/-
  Texts of walks and plain lemmas for this seat; no condition.
-/
import Derived.Test.YtplofpdjhelabaaGreatDoorGT
import Derived.Test.YtplofpdjhelabaaGreatDoorGB
import Derived.Deep.RegionHeldLaw
import Derived.Deep.RegionHeld3
import Derived.Deep.DeepCutAuto
import Derived.Deep.DrawnRows
namespace Go.Proofs.YtplofpdjhelabaaGreatDoor
open Go.RowKit
set_option linter.unusedVariables false

/-! All traces with at most one action. -/
/-- Some rows, new: at most m of them, each of at most n numbers. -/
def RowsUp (m n : Nat) (w : World) (v : Value) (w' : World) : Prop := (∃ ss xss, LLs w.heap.size w'.heap.size w' v ss xss ∧ ss.length ≤ m ∧ ∀ x ∈ xss, x.length ≤ n) ∧ Below w.heap.size w w'

set_option maxRecDepth 100000 in
set_option maxHeartbeats 6400000 in
theorem tracesFrom0 (lo hi : Nat) (v : Value) (t : List Int) (w : World) (hx : SlI lo hi w v t) (hm : t.length ≤ 100) :
    Calls Tryz.prog 63 #[v, .int .i64 0] w (RetV (RowsUp 1 t.length w)) := by
  have HX := Lib.hid hx
  obtain ⟨a, c, rfl, _, _⟩ := Sl.shape hx
  clear hx
  go_enter Tryz.func63, Tryz.ntmps63
  go_wp2_with fail
  refine (cloneI_any _ _ _ t w HX.out (by omega)).mono ?_
  rintro e1 w1 ⟨v1, rfl, hb1, ho1⟩
  have hz1 := hb1.size
  have H1 := Lib.hid (LLs.one ho1 hz1)
  have HB1 := Lib.hid (hb1.alloc hz1 (.cells #[v1] 23))
  obtain ⟨oa, oc, rfl⟩ := Own.shape ho1
  clear hb1 ho1
  go_wp2
  go_ret
  exact RetV.mk _ rfl ⟨⟨_, [t], H1.out.lower (Nat.le_refl _) (by simp), by simp, by simp⟩, HB1.out⟩
set_option maxRecDepth 100000 in
set_option maxHeartbeats 6400000 in
theorem tracesFrom1 (lo hi : Nat) (v : Value) (t : List Int) (w : World) (hx : SlI lo hi w v t) (hh : hi ≤ w.heap.size) (hm : t.length ≤ 90) :
    Calls Tryz.prog 63 #[v, .int .i64 1] w (RetV (RowsUp 13 (t.length + 2) w)) := by
  have HX := Lib.hid hx
  obtain ⟨a, c, rfl, _, _⟩ := Sl.shape hx
  clear hx
  go_enter Tryz.func63, Tryz.ntmps63
  go_wp2_with fail
  refine (cloneI_any _ _ _ t w HX.out (by omega)).mono ?_
  rintro e1 w1 ⟨v1, rfl, hb1, ho1⟩
  have hz1 := hb1.size
  have H1 := Lib.hid (LLs.one ho1 hz1)
  have HB1 := Lib.hid (hb1.alloc hz1 (.cells #[v1] 23))
  obtain ⟨oa, oc, rfl⟩ := Own.shape ho1
  clear hb1 ho1
  go_wp2
  go_loopw [5, 6] (fun v i wr => ∃ (j : Nat) (ss : List Value) (xss : List (List Int)), j ≤ 3 ∧ ss.length ≤ 1 + 4 * j ∧ i = .int .i64 (16 + (j : Int)) ∧ Hid (LLs w.heap.size wr.heap.size wr v ss xss ∧ Below w.heap.size w wr ∧ ∀ x ∈ xss, x.length ≤ t.length + 2)) (fun _ i _ => 19 - (intOf i).toNat)
  case atStart => exact ⟨0, _, _, by omega, by simp, rfl, Lib.hid ⟨H1.out.lower (Nat.le_refl _) (by simp), HB1.out, by simp⟩⟩
  case round =>
    rename World => wr
    clear H1 HB1
    obtain ⟨j, ss, xss, hj, hss, rfl, HQ⟩ := hrel
    obtain ⟨oa, oc, rfl⟩ := Own.shape HQ.out.1.1
    by_cases hltj : j < 3
    · have hdj : decide ((16 : Int) + (j : Int) ≤ 18) = true := by simp; omega
      go_wp2
      go_loopw [5, 18] (fun v i wx => ∃ (n : Nat) (ss : List Value) (xss : List (List Int)), n ≤ 4 ∧ ss.length ≤ 1 + 4 * j + n ∧ i = .int .i64 n ∧ Hid (LLs w.heap.size wx.heap.size wx v ss xss ∧ Below w.heap.size w wx ∧ ∀ x ∈ xss, x.length ≤ t.length + 2)) (fun _ i _ => 4 - (intOf i).toNat)
      case atStart => exact ⟨0, _, _, by omega, by omega, rfl, HQ⟩
      case round =>
        rename World => wx
        clear HQ
        obtain ⟨n, ss, xss, hn, hss, rfl, HQ⟩ := hrel
        obtain ⟨oa, oc, rfl⟩ := Own.shape HQ.out.1.1
        have hzx := HQ.out.2.1.size
        by_cases hltn : n < 4
        · have hdn : decide ((n : Int) < 4) = true := by simp; omega
          go_wp2_with fail
          refine (cloneI_any _ _ _ t wx (HX.out.below HQ.out.2.1 hh) (by omega)).mono ?_
          rintro e2 w2 ⟨v2, rfl, hb2, ho2⟩
          have hz2 := hb2.size
          have HO2 := Lib.hid ho2
          have HB2 := Lib.hid hb2
          obtain ⟨ya, yc, rfl⟩ := Own.shape ho2
          clear hb2 ho2
          go_wp2_with (at_builtin; go_loud (refine wpList_app_lit w2 rfl _ _ 23 rfl 3 (.int .i64 0) 1 8 Tryz.underlying23 info_int rfl (by decide) (by decide) rfl HO2.out 2 (ints [16 + (j : Int), (n : Int)]) rfl rfl (ints_one _) rfl ?c1 ?c2 ?_))
          case c1 => omega
          case c2 => omega
          intro v3 w3 ho3 hout3 _
          have hz3 := hout3.size
          have HO3 := Lib.hid (OwnI.len (xs := t ++ [16 + (j : Int), (n : Int)]) (by rw [ints_append]; exact ho3) (by simp))
          have HB3 := Lib.hid (Below.outside HB2.out hout3 (Nat.le_refl _) hz2)
          obtain ⟨yb, ybc, rfl⟩ := Own.shape ho3
          clear ho3 hout3
          go_wp2_with fail
          refine (tracesFrom0 _ _ _ (t ++ [16 + (j : Int), (n : Int)]) w3 HO3.out.sl (by simp; omega)).mono ?_
          rintro e4 w4 ⟨v4, rfl, ⟨s4, x4, h4, hl4, hx4⟩, hb4⟩
          have hz4 := hb4.size
          have HB4 := Lib.hid (HB3.out.trans (hb4.mono (by omega)))
          have H4 := Lib.hid h4
          have HX4 := Lib.hid hx4
          have HN4 := Lib.hid (HQ.out.1.below HB4.out (Nat.le_refl _))
          obtain ⟨za, zc, rfl⟩ := Own.shape h4.1
          clear h4 hb4 hx4
          go_wp2_with (at_builtin; go_loud (refine wpList_app_sl rfl _ _ 31 rfl 23 (.slice none 0 0) 1 24 Tryz.underlying31 info_ints rfl (by decide) (by decide) rfl HN4.out.1 rfl H4.out.1.sl H4.out.cellsOne ?c1 ?c2 ?_))
          case c1 => omega
          case c2 => omega
          intro v6 w6 ho6 hg6 hout6 _
          have hz6 := hg6.size
          have H6 := Lib.hid (LLs.join HN4.out hg6 ho6 rfl H4.out.2.1 (fun i h1 h2 => (H4.out.2.2 i h1 h2).lower (by omega) hz6) (by omega))
          have HB6 := Lib.hid (Below.outside (HQ.out.2.1.trans (HB4.out.mono hzx)) hout6 (Nat.le_refl _) (by omega))
          have hl6 : (ss ++ s4).length ≤ 1 + 4 * j + (n + 1) := by rw [List.length_append]; omega
          have HL6 := Lib.hid hl6
          obtain ⟨x6a, x6c, rfl⟩ := Own.shape ho6
          clear ho6 hg6 hout6 hl6
          go_wp2
          go_roundw
          case rel => exact ⟨n + 1, ss ++ s4, xss ++ x4, by omega, HL6.out, by go_num, Lib.hid ⟨H6.out, HB6.out, fun x hx => by
            rcases List.mem_append.1 hx with hx | hx
            · exact HQ.out.2.2 x hx
            · have := HX4.out x hx
              simp at this
              omega⟩⟩
          case measure => simp [intOf]; omega
        · obtain rfl : n = 4 := by omega
          go_wp2
          go_roundw
          case rel => exact ⟨j + 1, ss, xss, by omega, by omega, by go_num, HQ⟩
          case measure => simp [intOf]; omega
    · obtain rfl : j = 3 := by omega
      go_wp2
      go_ret
      exact RetV.mk _ rfl ⟨⟨ss, xss, HQ.out.1, by omega, HQ.out.2.2⟩, HQ.out.2.1⟩
theorem RowsUp.shape {m n : Nat} {w w' : World} {v : Value} (h : RowsUp m n w v w') : ∃ a k c, v = .slice a k c ∧ k ≤ m := by
  obtain ⟨⟨ss, xss, h1, h2, _⟩, _⟩ := h
  obtain ⟨a, c, rfl⟩ := Own.shape h1.1
  exact ⟨a, _, c, rfl, h2⟩
set_option maxRecDepth 100000 in
set_option maxHeartbeats 6400000 in
theorem allTraces1 (w : World) : Calls Tryz.prog 30 #[.int .i64 1] w (RetV (RowsUp 52 3 w)) := by
  go_enter Tryz.func30, Tryz.ntmps30
  go_wp2
  go_loopw [3, 5] (fun v i wx => ∃ (n : Nat) (ss : List Value) (xss : List (List Int)), n ≤ 4 ∧ ss.length ≤ 13 * n ∧ i = .int .i64 n ∧ Hid (LLs w.heap.size wx.heap.size wx v ss xss ∧ Below w.heap.size w wx ∧ ∀ x ∈ xss, x.length ≤ 3)) (fun _ i _ => 4 - (intOf i).toNat)
  case atStart => exact ⟨0, [], [], by omega, by simp, rfl, Lib.hid ⟨LLs.nil _ _ _, Below.refl _ _, by simp⟩⟩
  case round =>
    rename World => wx
    obtain ⟨n, ss, xss, hn, hss, rfl, HQ⟩ := hrel
    obtain ⟨oa, oc, rfl⟩ := Own.shape HQ.out.1.1
    have hzx := HQ.out.2.1.size
    by_cases hltn : n < 4
    · have hdn : decide ((n : Int) < 4) = true := by simp; omega
      have HO := Lib.hid (one_own' (n : Int) wx)
      have HB := Lib.hid (al_below wx (.cells #[.int .i64 (n : Int)] 3))
      go_wp2_with fail
      refine (tracesFrom1 _ _ _ [(n : Int)] _ HO.out.sl (by rw [alloc_size]; exact Nat.le_refl _) (by simp)).mono ?_
      rintro e4 w4 ⟨v4, rfl, ⟨s4, x4, h4, hl4, hx4⟩, hb4⟩
      have hz4 : wx.heap.size + 1 ≤ w4.heap.size := by have := hb4.size; rw [alloc_size] at this; exact this
      have HB4 := Lib.hid (HB.out.trans (hb4.mono (by rw [alloc_size]; exact Nat.le_succ _)))
      have H4 := Lib.hid (h4.lower (show wx.heap.size ≤ _ by rw [alloc_size]; exact Nat.le_succ _) (Nat.le_refl _))
      have HX4 := Lib.hid hx4
      have HN4 := Lib.hid (HQ.out.1.below HB4.out (Nat.le_refl _))
      obtain ⟨za, zc, rfl⟩ := Own.shape h4.1
      clear h4 hb4 hx4
      go_wp2_with (at_builtin; go_loud (refine wpList_app_sl rfl _ _ 31 rfl 23 (.slice none 0 0) 1 24 Tryz.underlying31 info_ints rfl (by decide) (by decide) rfl HN4.out.1 rfl H4.out.1.sl H4.out.cellsOne ?c1 ?c2 ?_))
      case c1 => omega
      case c2 => omega
      intro v6 w6 ho6 hg6 hout6 _
      have hz6 := hg6.size
      have H6 := Lib.hid (LLs.join HN4.out hg6 ho6 rfl H4.out.2.1 (fun i h1 h2 => (H4.out.2.2 i h1 h2).lower (by omega) hz6) (by omega))
      have HB6 := Lib.hid (Below.outside (HQ.out.2.1.trans (HB4.out.mono hzx)) hout6 (Nat.le_refl _) (by omega))
      have hl6 : (ss ++ s4).length ≤ 13 * (n + 1) := by rw [List.length_append]; omega
      have HL6 := Lib.hid hl6
      obtain ⟨x6a, x6c, rfl⟩ := Own.shape ho6
      clear ho6 hg6 hout6 hl6
      go_wp2
      go_roundw
      case rel => exact ⟨n + 1, ss ++ s4, xss ++ x4, by omega, HL6.out, by go_num, Lib.hid ⟨H6.out, HB6.out, fun x hx => by
        rcases List.mem_append.1 hx with hx | hx
        · exact HQ.out.2.2 x hx
        · have := HX4.out x hx
          simpa using this⟩⟩
      case measure => simp [intOf]; omega
    · obtain rfl : n = 4 := by omega
      go_wp2
      go_ret
      exact RetV.mk _ rfl ⟨⟨ss, xss, HQ.out.1, by omega, HQ.out.2.2⟩, HQ.out.2.1⟩
theorem AllTraces1 (w : World) : Calls Tryz.prog 10 #[.int .i64 1] w (RetV (RowsUp 52 3 w)) := by
  go_enter Tryz.func10, Tryz.ntmps10
  go_wp2_with fail
  refine (allTraces1 w).mono ?_
  rintro e w1 ⟨v, rfl, h⟩
  obtain ⟨a, k, c, rfl, _⟩ := h.shape
  have H := Lib.hid h
  clear h
  go_wp2
  go_ret
  exact RetV.mk _ rfl H.out
end Go.Proofs.YtplofpdjhelabaaGreatDoor
