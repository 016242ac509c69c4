/-
  Texts of walks and plain lemmas for this seat; no condition.
-/
import Derived.Test.YtagjpecibpejmaaGreatDoorDBound
import Derived.Test.YtagjpecibpejmaaGreatDoorGH
import Derived.Test.YtagjpecibpejmaaGreatDoorDMoveR
import Derived.Test.YtagjpecibpejmaaGreatDoorRMove
import Derived.Test.YtagjpecibpejmaaGreatDoorRAct
namespace Go.Proofs.YtagjpecibpejmaaGreatDoor
open Go.RowKit

/-- Stores into a new block are no matter for what was there. -/
theorem Outside.new3 {g G : Nat} {a w : World} (h : Outside g (g + 1) a w) (hG : a.heap.size ≤ G) (x y z : Value) : Outside g (g + 1) a (((w.setCell ⟨G, 0, none⟩ x).setCell ⟨G, 1, none⟩ y).setCell ⟨G, 2, none⟩ z) :=
  h.fresh (Outside.set3 G w x y z) hG

set_option maxRecDepth 100000 in
set_option maxHeartbeats 6400000 in
theorem l20Fit_any (g c lo hi : Nat) (ve : Value) (e : List Int) (w : World) (h : Rd g w c) (hc : c ≤ 10000000) (hx : SlI lo hi w ve e) (hh : hi ≤ w.heap.size) (hm : e.length ≤ 1000000) (hap : g + 1 ≤ lo) :
    Calls Tryz.prog 93 #[.pointer (some ⟨g, 0, none⟩), ve] w (RetM fun _ w' => Outside g (g + 1) w w' ∧ Rd g w' (c + 100)) := by
  have hg := h.lt
  obtain ⟨w0, hw0⟩ : ∃ w0, w0 = w.alloc (.cells #[.int .i64 0, .bool false, .int .i64 0] 43) := ⟨_, rfl⟩
  have hb0 : Below w.heap.size w w0 := by rw [hw0]; exact (Below.refl _ _).alloc (Nat.le_refl _) _
  have K : Hid (Blk w.heap.size (.cells #[.int .i64 0, .bool false, .int .i64 0] 43) w0) := by rw [hw0]; exact Lib.hid (Blk.new w _)
  have hsz : w0.heap.size = w.heap.size + 1 := by rw [hw0]; simp
  have HR := Lib.hid (h.below hb0 hg)
  have HO := Lib.hid ((Outside.refl g (g + 1) w).below hb0 (Nat.le_refl _))
  obtain ⟨ea, ec, rfl, _, _⟩ := Sl.shape hx
  have HX := Lib.hid (hx.below hb0 hh)
  have HW0 := Lib.hid hw0
  clear h hx hb0 hw0
  go_enter Tryz.func93, Tryz.ntmps93
  go_wp2_with (rw [← HW0.out])
  go_loopw [5] (fun i wr => ∃ j : Nat, j ≤ 24 ∧ i = .int .i64 j ∧ Hid (Outside g (g + 1) w wr ∧ Rd g wr (c + 3 * j) ∧ Blk w.heap.size (.cells #[.int .i64 0, .bool false, .int .i64 0] 43) wr ∧ SlI lo hi wr (.slice ea e.length ec) e ∧ w0.heap.size ≤ wr.heap.size)) (fun i _ => 24 - (intOf i).toNat)
  case atStart => exact ⟨0, by omega, rfl, Lib.hid ⟨HO.out, HR.out, K.out, HX.out, Nat.le_refl _⟩⟩
  case round =>
    clear HO HR K HX
    obtain ⟨j, hj, rfl, HQ⟩ := hrel
    have HO := Lib.hid HQ.out.1
    have HR := Lib.hid HQ.out.2.1
    have K := Lib.hid HQ.out.2.2.1
    have HX := Lib.hid HQ.out.2.2.2.1
    have hsr := HQ.out.2.2.2.2
    clear HQ
    by_cases hlt : j < 24
    · skip
      go_wp2_with fail
      refine (pick_any g _ _ _ HR.out (by omega)).mono ?_
      rintro e w1 ⟨q1, rfl, i_, h_, r_⟩
      obtain ⟨i1_q1, i2_q1⟩ := i_.lt (by omega)
      clear i_
      have hs1 := h_.size
      replace HX := Lib.hid (HX.out.outside h_ (.inr (by omega))); replace K := Lib.hid (K.out.outside h_ (.inr (by omega)))
      replace HO := Lib.hid (HO.out.trans h_)
      replace HR := Lib.hid r_
      clear h_ r_
      go_wp2_with fail
      refine (pick_any g _ _ _ HR.out (by omega)).mono ?_
      rintro e w2 ⟨q2, rfl, i_, h_, r_⟩
      obtain ⟨i1_q2, i2_q2⟩ := i_.lt (by omega)
      clear i_
      have hs2 := h_.size
      replace HX := Lib.hid (HX.out.outside h_ (.inr (by omega))); replace K := Lib.hid (K.out.outside h_ (.inr (by omega)))
      replace HO := Lib.hid (HO.out.trans h_)
      replace HR := Lib.hid r_
      clear h_ r_
      have hmx : (0 : Int) < max (e.length : Int) 1 := by omega
      go_wp2_with fail
      refine (pick_any g _ _ _ HR.out (by omega)).mono ?_
      rintro e3 w3 ⟨q3, rfl, i_, h_, r_⟩
      clear i_
      have hs3 := h_.size
      replace HX := Lib.hid (HX.out.outside h_ (.inr (by omega))); replace K := Lib.hid (K.out.outside h_ (.inr (by omega)))
      replace HO := Lib.hid (HO.out.trans h_)
      replace HR := Lib.hid r_
      clear h_ r_
      obtain ⟨m, hm⟩ : ∃ m : Mv, m = ⟨q1, q2 == 0, q3⟩ := ⟨_, rfl⟩
      go_wp2_with fail
      obtain ⟨w4, hw_⟩ : ∃ w_, w_ = w3.alloc (.cells #[.int .i64 q1, .bool (q2 == 0), .int .i64 q3] 43) := ⟨_, rfl⟩
      obtain ⟨h_, K_, hs4⟩ := box_facts2 hw_
      simp only [← hw_]
      clear hw_
      replace HX := Lib.hid (HX.out.below h_ (by omega)); replace K := Lib.hid (K.out.below h_ (by omega)); replace HO := Lib.hid (HO.out.below h_ (by omega)); replace HR := Lib.hid (HR.out.below h_ (by omega))
      have KM := Lib.hid K_
      clear h_ K_
      refine (spec_MoveDo _ e ⟨q1, q2 == 0, q3⟩ w4 (SlI.rd HX.out (by omega)) (by omega)).mono ?_
      rintro e4 w5 ⟨v4, ok, rfl, h_, hok, o_⟩
      have hs5 := h_.size
      replace HX := Lib.hid (HX.out.below h_ (by omega)); replace K := Lib.hid (K.out.below h_ (by omega)); replace KM := Lib.hid (KM.out.below h_ (by omega)); replace HO := Lib.hid (HO.out.below h_ (by omega)); replace HR := Lib.hid (HR.out.below h_ (by omega))
      obtain ⟨a4, c4, rfl, _⟩ := Own.open o_
      clear h_ o_ hok hm
      cases ok
      · go_wp2
        go_roundw
        case rel => exact ⟨j + 1, by omega, by go_num, Lib.hid ⟨HO.out, HR.out.mono (by omega), K.out, HX.out, by omega⟩⟩
        case measure => simp [intOf]; omega
      · skip
        have m0 := KM.out.cell 0
        have m1 := KM.out.cell 1
        have m2 := KM.out.cell 2
        have f0 := K.out.free 0
        have c0 := K.out.cell 0
        have f1 := K.out.free 1
        have c1 := K.out.cell 1
        have f2 := K.out.free 2
        have c2 := K.out.cell 2
        obtain ⟨wz, hwz⟩ : ∃ wz, wz = ((w5.setCell ⟨w.heap.size, 0, none⟩ (.int .i64 q1)).setCell ⟨w.heap.size, 1, none⟩ (.bool (q2 == 0))).setCell ⟨w.heap.size, 2, none⟩ (.int .i64 q3) := ⟨_, rfl⟩
        have KZ := K.out.set3 (.int .i64 q1) (.bool (q2 == 0)) (.int .i64 q3)
        have HZ : Outside g (g + 1) w wz := by rw [hwz]; exact Outside.new3 HO.out (by omega) (.int .i64 q1) (.bool (q2 == 0)) (.int .i64 q3)
        have HRZ := HR.out.outside (Outside.set3 w.heap.size w5 (.int .i64 q1) (.bool (q2 == 0)) (.int .i64 q3)) (by omega)
        rw [← hwz] at KZ HRZ
        have q0_ := KZ.cell 0
        have q1_ := KZ.cell 1
        have q2_ := KZ.cell 2
        clear KZ
        go_wp2
        simp only [← hwz]
        clear hwz
        refine bodyPost_ret (v := .agg #[(.int .i64 q1), (.bool (q2 == 0)), (.int .i64 q3)]) (by simp [results, Tryz.results93, go_sem, q0_, q1_, q2_]) rfl ⟨⟨_, _, _⟩, rfl, HZ, HRZ.mono (by omega)⟩
    · skip
      go_wp2_with fail
      refine (pick_any g _ _ _ HR.out (by omega)).mono ?_
      rintro e w1 ⟨q4, rfl, i_, h_, r_⟩
      obtain ⟨i1_q4, i2_q4⟩ := i_.lt (by omega)
      clear i_
      have hs1 := h_.size
      replace HX := Lib.hid (HX.out.outside h_ (.inr (by omega))); replace K := Lib.hid (K.out.outside h_ (.inr (by omega)))
      replace HO := Lib.hid (HO.out.trans h_)
      replace HR := Lib.hid r_
      clear h_ r_
      go_wp2_with fail
      refine (pick_any g _ _ _ HR.out (by omega)).mono ?_
      rintro e w2 ⟨q5, rfl, i_, h_, r_⟩
      obtain ⟨i1_q5, i2_q5⟩ := i_.lt (by omega)
      clear i_
      have hs2 := h_.size
      replace HX := Lib.hid (HX.out.outside h_ (.inr (by omega))); replace K := Lib.hid (K.out.outside h_ (.inr (by omega)))
      replace HO := Lib.hid (HO.out.trans h_)
      replace HR := Lib.hid r_
      clear h_ r_
      have f0 := K.out.free 0
      have c0 := K.out.cell 0
      have f1 := K.out.free 1
      have c1 := K.out.cell 1
      have f2 := K.out.free 2
      have c2 := K.out.cell 2
      obtain ⟨wz, hwz⟩ : ∃ wz, wz = ((w2.setCell ⟨w.heap.size, 0, none⟩ (.int .i64 (q4 - 1))).setCell ⟨w.heap.size, 1, none⟩ (.bool false)).setCell ⟨w.heap.size, 2, none⟩ (.int .i64 (q5 - 1)) := ⟨_, rfl⟩
      have KZ := K.out.set3 (.int .i64 (q4 - 1)) (.bool false) (.int .i64 (q5 - 1))
      have HZ : Outside g (g + 1) w wz := by rw [hwz]; exact Outside.new3 HO.out (by omega) (.int .i64 (q4 - 1)) (.bool false) (.int .i64 (q5 - 1))
      have HRZ := HR.out.outside (Outside.set3 w.heap.size w2 (.int .i64 (q4 - 1)) (.bool false) (.int .i64 (q5 - 1))) (by omega)
      rw [← hwz] at KZ HRZ
      have q0_ := KZ.cell 0
      have q1_ := KZ.cell 1
      have q2_ := KZ.cell 2
      clear KZ
      go_wp2
      simp only [← hwz]
      clear hwz
      refine bodyPost_ret (v := .agg #[(.int .i64 (q4 - 1)), (.bool false), (.int .i64 (q5 - 1))]) (by simp [results, Tryz.results93, go_sem, q0_, q1_, q2_]) rfl ⟨⟨_, _, _⟩, rfl, HZ, HRZ.mono (by omega)⟩
end Go.Proofs.YtagjpecibpejmaaGreatDoor
