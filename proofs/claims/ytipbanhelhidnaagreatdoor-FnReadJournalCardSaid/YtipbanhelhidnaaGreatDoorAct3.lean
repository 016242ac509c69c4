/-
  Texts of walks and plain lemmas for this seat; no condition.
-/
import Derived.Test.YtipbanhelhidnaaGreatDoorActT
import Derived.Deep.QuietTactic
import Derived.BigQuiet
import Derived.Deep.RegionWith
namespace Go.Proofs.YtipbanhelhidnaaGreatDoor
open Go.RowKit

set_option maxRecDepth 100000 in
set_option maxHeartbeats 1600000 in
theorem impl_ActText (a : Ac) (w : World) :
    Calls Tryz.prog 11 #[.agg #[.int .i64 a.kind, .int .i64 a.step.which, .bool a.step.back, .int .i64 a.step.at_, .int .i64 a.count]] w fun e w' => e = .returned (.string ⟨(actText a).toArray⟩) ∧ Below w.heap.size w w' := by
  obtain ⟨k, m, c⟩ := a
  obtain ⟨w0, hw0⟩ : ∃ w0, w0 = w.alloc (.cells #[.int .i64 k, .int .i64 m.which, .bool m.back, .int .i64 m.at_, .int .i64 c] 41) := ⟨_, rfl⟩
  have HB : Hid (Below w.heap.size w w0) := by rw [hw0]; exact Lib.hid ((Below.refl _ _).alloc (Nat.le_refl _) _)
  have K : Hid (Blk w.heap.size (.cells #[.int .i64 k, .int .i64 m.which, .bool m.back, .int .i64 m.at_, .int .i64 c] 41) w0) := by rw [hw0]; exact Lib.hid (Blk.new w _)
  have c0 := K.out.cell 0
  have c1 := K.out.cell 1
  have c2 := K.out.cell 2
  have c3 := K.out.cell 3
  have c4 := K.out.cell 4
  go_enter Tryz.func11, Tryz.ntmps11
  go_wp2_with fail
  simp only [← hw0]
  clear hw0
  go_wp2_with fail
  refine (named_any ⟨k, m, c⟩ _).mono ?_
  rintro e w1 ⟨rfl, hb⟩
  clear c0 c1 c2 c3 c4
  replace HB := Lib.hid (HB.out.trans (hb.mono HB.out.size))
  replace K := Lib.hid (K.out.below hb K.out.lt)
  clear hb
  have c0 := K.out.cell 0
  have c1 := K.out.cell 1
  have c2 := K.out.cell 2
  have c3 := K.out.cell 3
  have c4 := K.out.cell 4
  cases hN : namedB ⟨k, m, c⟩
  · have HT := Lib.hid (show actText ⟨k, m, c⟩ = [] by simp [actText, hN])
    clear hN
    go_wp2
    go_ret
    exact ⟨ret_str (a := []) (by rw [HT.out]), HB.out⟩
  · cases h0 : k == 0
    · cases h1 : k == 1
      · have h2 : (k == 2) = true := by
          cases h2 : k == 2
          · simp [namedB, h0, h1, h2] at hN
          · rfl
        have HT := Lib.hid (show actText ⟨k, m, c⟩ = simpleT by simp only [actText, hN, h0, h1]; rfl)
        clear hN
        go_wp2
        go_ret
        exact ⟨ret_str HT.out.symm, HB.out⟩
      · have h2 : (k == 2) = false := by have h : k = 1 := by simpa using h1
                                         subst h; rfl
        by_cases g1 : 0 ≤ c
        · by_cases g2 : c ≤ 99
          · have HT := Lib.hid (show actText ⟨k, m, c⟩ = backT ++ dig2 c.toNat by simp only [actText, hN, h0, h1]; simp [g1, g2])
            clear hN
            obtain ⟨c, rfl⟩ : ∃ n : Nat, c = n := ⟨c.toNat, by omega⟩
            have hc : c < 100 := by omega
            have l1 := dig2_len c
            clear g1
            go_wp2_with (first | (go_at_call 36; refine (Itoa_any _ _ hc).mono ?_; rintro e w' ⟨rfl, rfl⟩) | fail)
            go_ret
            exact ⟨backCat c _ HT.out, HB.out⟩
          · have HT := Lib.hid (show actText ⟨k, m, c⟩ = [] by simp only [actText, hN, h0, h1]; simp [g2])
            clear hN
            go_wp2
            go_ret
            exact ⟨ret_str (a := []) (by rw [HT.out]), HB.out⟩
        · have HT := Lib.hid (show actText ⟨k, m, c⟩ = [] by simp only [actText, hN, h0, h1]; simp [g1])
          clear hN
          go_wp2
          go_ret
          exact ⟨ret_str (a := []) (by rw [HT.out]), HB.out⟩
    · have HT := Lib.hid (show actText ⟨k, m, c⟩ = mvText m by simp only [actText, hN, h0]; rfl)
      clear hN
      go_wp2_with fail
      refine (impl_MoveText m _).mono ?_
      rintro e w2 ⟨rfl, hb⟩
      replace HB := Lib.hid (HB.out.trans (hb.mono HB.out.size))
      clear hb
      go_wp2
      go_ret
      exact ⟨ret_str HT.out.symm, HB.out⟩

set_option maxHeartbeats 800000 in
theorem l10Small_any (n : Nat) (w : World) (h : n < 100) :
    Calls Tryz.prog 77 #[.int .i64 n] w fun e w' => e = .returned (.string ⟨(dig2 n).toArray⟩) ∧ Below w.heap.size w w' := by
  go_enter Tryz.func77, Tryz.ntmps77
  go_wp2_with fail
  refine (l9Number_any n _ h).mono ?_
  rintro e w1 ⟨rfl, hb⟩
  go_wp2
  go_ret
  exact ⟨rfl, hb⟩

set_option maxRecDepth 100000 in
set_option maxHeartbeats 1600000 in
theorem spec_ActText (a : Ac) (w : World) :
    Calls Tryz.prog 42 #[.agg #[.int .i64 a.kind, .int .i64 a.step.which, .bool a.step.back, .int .i64 a.step.at_, .int .i64 a.count]] w fun e w' => e = .returned (.string ⟨(actText a).toArray⟩) ∧ Below w.heap.size w w' := by
  obtain ⟨k, m, c⟩ := a
  obtain ⟨w0, hw0⟩ : ∃ w0, w0 = w.alloc (.cells #[.int .i64 k, .int .i64 m.which, .bool m.back, .int .i64 m.at_, .int .i64 c] 41) := ⟨_, rfl⟩
  have HB : Hid (Below w.heap.size w w0) := by rw [hw0]; exact Lib.hid ((Below.refl _ _).alloc (Nat.le_refl _) _)
  have K : Hid (Blk w.heap.size (.cells #[.int .i64 k, .int .i64 m.which, .bool m.back, .int .i64 m.at_, .int .i64 c] 41) w0) := by rw [hw0]; exact Lib.hid (Blk.new w _)
  have c0 := K.out.cell 0
  have c1 := K.out.cell 1
  have c2 := K.out.cell 2
  have c3 := K.out.cell 3
  have c4 := K.out.cell 4
  go_enter Tryz.func42, Tryz.ntmps42
  go_wp2_with fail
  simp only [← hw0]
  clear hw0
  go_wp2_with fail
  refine (l10Named_any ⟨k, m, c⟩ _).mono ?_
  rintro e w1 ⟨rfl, hb⟩
  clear c0 c1 c2 c3 c4
  replace HB := Lib.hid (HB.out.trans (hb.mono HB.out.size))
  replace K := Lib.hid (K.out.below hb K.out.lt)
  clear hb
  have c0 := K.out.cell 0
  have c1 := K.out.cell 1
  have c2 := K.out.cell 2
  have c3 := K.out.cell 3
  have c4 := K.out.cell 4
  cases hN : namedB ⟨k, m, c⟩
  · have HT := Lib.hid (show actText ⟨k, m, c⟩ = [] by simp [actText, hN])
    clear hN
    go_wp2
    go_ret
    exact ⟨ret_str (a := []) (by rw [HT.out]), HB.out⟩
  · cases h0 : k == 0
    · cases h1 : k == 1
      · have h2 : (k == 2) = true := by
          cases h2 : k == 2
          · simp [namedB, h0, h1, h2] at hN
          · rfl
        have HT := Lib.hid (show actText ⟨k, m, c⟩ = simpleT by simp only [actText, hN, h0, h1]; rfl)
        clear hN
        go_wp2
        go_ret
        exact ⟨ret_str HT.out.symm, HB.out⟩
      · have h2 : (k == 2) = false := by have h : k = 1 := by simpa using h1
                                         subst h; rfl
        cases g : inB c 0 99
        · have HT := Lib.hid (show actText ⟨k, m, c⟩ = [] by simp [inB] at g; simp only [actText, hN, h0, h1]; simp; intro g1 g2; omega)
          clear hN
          go_wp2_with (go_at_call 55; refine (l1In_any _ _ _ _).mono ?_; rintro e w' ⟨rfl, rfl⟩)
          go_ret
          exact ⟨ret_str (a := []) (by rw [HT.out]), HB.out⟩
        · have g1 : 0 ≤ c ∧ c ≤ 99 := by simpa [inB] using g
          have HT := Lib.hid (show actText ⟨k, m, c⟩ = backT ++ dig2 c.toNat by simp only [actText, hN, h0, h1]; simp [g1])
          clear hN
          obtain ⟨c, rfl⟩ : ∃ n : Nat, c = n := ⟨c.toNat, by omega⟩
          have hc : c < 100 := by omega
          have l1 := dig2_len c
          clear g1
          go_wp2_with (go_at_call 55; refine (l1In_any _ _ _ _).mono ?_; rintro e w' ⟨rfl, rfl⟩)
          refine (l10Small_any c _ hc).mono ?_
          rintro e w2 ⟨rfl, hb⟩
          replace HB := Lib.hid (HB.out.trans (hb.mono HB.out.size))
          clear hb
          go_wp2
          go_ret
          exact ⟨backCat c _ HT.out, HB.out⟩
    · have HT := Lib.hid (show actText ⟨k, m, c⟩ = mvText m by simp only [actText, hN, h0]; rfl)
      clear hN
      go_wp2_with fail
      refine (spec_MoveText m _).mono ?_
      rintro e w2 ⟨rfl, hb⟩
      replace HB := Lib.hid (HB.out.trans (hb.mono HB.out.size))
      clear hb
      go_wp2
      go_ret
      exact ⟨ret_str HT.out.symm, HB.out⟩
end Go.Proofs.YtipbanhelhidnaaGreatDoor
