/-
  Texts of walks and plain lemmas for this seat; no condition.
-/
import Derived.Test.YtagjpecibpejmaaGreatDoorDKatW
namespace Go.Proofs.YtagjpecibpejmaaGreatDoor
open Go.RowKit

set_option maxRecDepth 100000 in
set_option maxHeartbeats 6400000 in
theorem l20While0_any (g c : Nat) (w : World) (h : Rd g w c) (hc : c ≤ 200000000) :
    Calls Tryz.prog 168 #[.pointer (some ⟨g, 0, none⟩), .int .i64 0] w (RetV fun v w' => DrawnI g (c + 30) w v w' 40) := by
  have hg := h.lt
  have HR := Lib.hid h
  have HO := Lib.hid (Outside.refl g (g + 1) w)
  clear h
  go_enter Tryz.func168, Tryz.ntmps168
  go_wp2_with fail
  refine (pick_any g _ _ _ HR.out (by omega)).mono ?_
  rintro e w1 ⟨q1, rfl, i_, h_, r_⟩
  obtain ⟨i1_q1, i2_q1⟩ := i_.lt (by omega)
  clear i_
  have hs1 := h_.size
  replace HO := Lib.hid (HO.out.trans h_)
  replace HR := Lib.hid r_
  clear h_ r_
  go_wp2_with fail
  obtain ⟨w2, hw_⟩ : ∃ w_, w_ = w1.alloc (.cells #[.int .i64 (16 + q1)] 3) := ⟨_, rfl⟩
  obtain ⟨h_, K_, hs2⟩ := box_facts2 hw_
  have HL_ := Lib.hid hw_
  simp only [← hw_]
  clear hw_
  replace HO := Lib.hid (HO.out.below h_ (by omega)); replace HR := Lib.hid (HR.out.below h_ (by omega))
  clear h_
  have OA : Hid (OwnI w1.heap.size w2.heap.size 3 w2 (.slice (some ⟨w1.heap.size, 0, none⟩) 1 1) [16 + q1]) := Lib.hid (by rw [HL_.out]; exact one_own _ _)
  clear HL_ K_
  skip
  refine (pick_any g _ _ _ HR.out (by omega)).mono ?_
  rintro e w3 ⟨q2, rfl, i_, h_, r_⟩
  obtain ⟨i1_q2, i2_q2⟩ := i_.lt (by omega)
  clear i_
  have hs3 := h_.size
  replace OA := Lib.hid (OA.out.outside h_ (.inr (by omega)))
  replace HO := Lib.hid (HO.out.trans h_)
  replace HR := Lib.hid r_
  clear h_ r_
  obtain ⟨y, rfl⟩ : ∃ y : Nat, q2 = y := ⟨q2.toNat, by omega⟩
  go_wp2
  go_loopw [5, 6] (fun v i wr => ∃ (j : Nat) (a : Option Addr) (cap : Nat) (xs : List Int), v = .slice a xs.length cap ∧ j ≤ 2 ∧ i = .int .i64 j ∧ xs.length ≤ 40 ∧ Hid (OwnI w.heap.size wr.heap.size 3 wr (.slice a xs.length cap) xs ∧ Outside g (g + 1) w wr ∧ Rd g wr (c + 4 + 8 * (2 - j)))) (fun _ i _ => (intOf i).toNat)
  case atStart => exact ⟨y + 1, _, _, [16 + q1], rfl, by omega, by go_num, by simp, Lib.hid ⟨OA.out.lower (by omega) (by omega), HO.out, HR.out.mono (by omega)⟩⟩
  case round =>
    clear OA HO HR
    obtain ⟨j, a, cap, xs, rfl, hj, rfl, hlen, HQ⟩ := hrel
    have OX := Lib.hid HQ.out.1
    have HO := Lib.hid HQ.out.2.1
    have HR := Lib.hid HQ.out.2.2
    clear HQ
    have hsz := HO.out.size
    by_cases hj0 : 0 < j
    · skip
      go_wp2_with fail
      refine (pick_any g _ _ _ HR.out (by omega)).mono ?_
      rintro e w4 ⟨q3, rfl, i_, h_, r_⟩
      obtain ⟨i1_q3, i2_q3⟩ := i_.lt (by omega)
      clear i_
      have hs4 := h_.size
      replace OX := Lib.hid (OX.out.outside h_ (.inr (by omega)))
      replace HO := Lib.hid (HO.out.trans h_)
      replace HR := Lib.hid r_
      clear h_ r_
      go_wp2_with fail
      obtain ⟨w5, hw_⟩ : ∃ w_, w_ = w4.alloc (.cells #[.int .i64 (16 + q3)] 3) := ⟨_, rfl⟩
      obtain ⟨h_, K_, hs5⟩ := box_facts2 hw_
      have HL_ := Lib.hid hw_
      simp only [← hw_]
      clear hw_
      replace OX := Lib.hid (OX.out.below h_ (by omega)); replace HO := Lib.hid (HO.out.below h_ (by omega)); replace HR := Lib.hid (HR.out.below h_ (by omega))
      clear h_
      have ON : Hid (OwnI w4.heap.size w5.heap.size 3 w5 (.slice (some ⟨w4.heap.size, 0, none⟩) 1 1) [16 + q3]) := Lib.hid (by rw [HL_.out]; exact one_own _ _)
      clear HL_ K_
      skip
      refine (pick_any g _ _ _ HR.out (by omega)).mono ?_
      rintro e w6 ⟨q7, rfl, i_, h_, r_⟩
      obtain ⟨i1_q7, i2_q7⟩ := i_.lt (by omega)
      clear i_
      have hs6 := h_.size
      replace OX := Lib.hid (OX.out.outside h_ (.inr (by omega))); replace ON := Lib.hid (ON.out.outside h_ (.inr (by omega)))
      replace HO := Lib.hid (HO.out.trans h_)
      replace HR := Lib.hid r_
      clear h_ r_
      cases hq7 : q7 == 0
      · skip
        go_wp2_with fail
        refine (spec_KatThen _ _ _ _ _ _ xs [16 + q3] _ OX.out.sl ON.out.sl (by omega) (by omega) (by first | omega | (simp; omega))).mono ?_
        rintro e w7 ⟨vt, okt, rfl, h_, zt, ot, lt_⟩
        have hs7 := h_.size
        replace OX := Lib.hid (OX.out.below h_ (by omega)); replace ON := Lib.hid (ON.out.below h_ (by omega)); replace HO := Lib.hid (HO.out.below h_ (by omega)); replace HR := Lib.hid (HR.out.below h_ (by omega))
        have OT := Lib.hid (ot)
        obtain ⟨at_, ct_, rfl, _⟩ := Own.open ot
        clear ot
        clear h_
        go_wp2_with fail
        refine (pick_any g _ _ _ HR.out (by omega)).mono ?_
        rintro e w8 ⟨q4, rfl, i_, h_, r_⟩
        obtain ⟨i1_q4, i2_q4⟩ := i_.lt (by omega)
        clear i_
        have hs8 := h_.size
        replace OX := Lib.hid (OX.out.outside h_ (.inr (by omega))); replace ON := Lib.hid (ON.out.outside h_ (.inr (by omega))); replace OT := Lib.hid (OT.out.outside h_ (.inr (by omega)))
        replace HO := Lib.hid (HO.out.trans h_)
        replace HR := Lib.hid r_
        clear h_ r_
        cases hq4 : q4 == 0
        · cases okt
          · go_wp2
            go_roundw
            case rel => exact ⟨j - 1, _, _, xs, by first | rfl | simp, by omega, by go_num, by first | assumption | simp | omega, Lib.hid ⟨OX.out.lower (by omega) (by omega), HO.out, HR.out.mono (by omega)⟩⟩
            case measure => simp [intOf]; omega
          · go_wp2
            go_roundw
            case rel => exact ⟨j - 1, _, _, zt, by first | rfl | simp, by omega, by go_num, by first | assumption | simp | omega, Lib.hid ⟨OT.out.lower (by omega) (by omega), HO.out, HR.out.mono (by omega)⟩⟩
            case measure => simp [intOf]; omega
        · go_wp2
          go_roundw
          case rel => exact ⟨j - 1, _, _, [16 + q3], by first | rfl | simp, by omega, by go_num, by first | assumption | simp | omega, Lib.hid ⟨ON.out.lower (by omega) (by omega), HO.out, HR.out.mono (by omega)⟩⟩
          case measure => simp [intOf]; omega
      · go_wp2_with fail
        obtain ⟨w7, hw_⟩ : ∃ w_, w_ = w6.alloc (.cells #[.int .i64 15] 3) := ⟨_, rfl⟩
        obtain ⟨h_, K_, hs7⟩ := box_facts2 hw_
        have HL_ := Lib.hid hw_
        simp only [← hw_]
        clear hw_
        replace OX := Lib.hid (OX.out.below h_ (by omega)); replace ON := Lib.hid (ON.out.below h_ (by omega)); replace HO := Lib.hid (HO.out.below h_ (by omega)); replace HR := Lib.hid (HR.out.below h_ (by omega))
        clear h_
        have OF : Hid (OwnI w6.heap.size w7.heap.size 3 w7 (.slice (some ⟨w6.heap.size, 0, none⟩) 1 1) [15]) := Lib.hid (by rw [HL_.out]; exact one_own _ _)
        clear HL_ K_
        skip
        refine (spec_KatThen _ _ _ _ _ _ xs [15] _ OX.out.sl OF.out.sl (by omega) (by omega) (by first | omega | (simp; omega))).mono ?_
        rintro e w8 ⟨vt, okt, rfl, h_, zt, ot, lt_⟩
        have hs8 := h_.size
        replace OX := Lib.hid (OX.out.below h_ (by omega)); replace ON := Lib.hid (ON.out.below h_ (by omega)); replace OF := Lib.hid (OF.out.below h_ (by omega)); replace HO := Lib.hid (HO.out.below h_ (by omega)); replace HR := Lib.hid (HR.out.below h_ (by omega))
        have OT := Lib.hid (ot)
        obtain ⟨at_, ct_, rfl, _⟩ := Own.open ot
        clear ot
        clear h_
        go_wp2_with fail
        refine (pick_any g _ _ _ HR.out (by omega)).mono ?_
        rintro e w9 ⟨q4, rfl, i_, h_, r_⟩
        obtain ⟨i1_q4, i2_q4⟩ := i_.lt (by omega)
        clear i_
        have hs9 := h_.size
        replace OX := Lib.hid (OX.out.outside h_ (.inr (by omega))); replace ON := Lib.hid (ON.out.outside h_ (.inr (by omega))); replace OF := Lib.hid (OF.out.outside h_ (.inr (by omega))); replace OT := Lib.hid (OT.out.outside h_ (.inr (by omega)))
        replace HO := Lib.hid (HO.out.trans h_)
        replace HR := Lib.hid r_
        clear h_ r_
        cases hq4 : q4 == 0
        · cases okt
          · go_wp2
            go_roundw
            case rel => exact ⟨j - 1, _, _, xs, by first | rfl | simp, by omega, by go_num, by first | assumption | simp | omega, Lib.hid ⟨OX.out.lower (by omega) (by omega), HO.out, HR.out.mono (by omega)⟩⟩
            case measure => simp [intOf]; omega
          · go_wp2
            go_roundw
            case rel => exact ⟨j - 1, _, _, zt, by first | rfl | simp, by omega, by go_num, by first | assumption | simp | omega, Lib.hid ⟨OT.out.lower (by omega) (by omega), HO.out, HR.out.mono (by omega)⟩⟩
            case measure => simp [intOf]; omega
        · go_wp2
          go_roundw
          case rel => exact ⟨j - 1, _, _, [15], by first | rfl | simp, by omega, by go_num, by first | assumption | simp | omega, Lib.hid ⟨OF.out.lower (by omega) (by omega), HO.out, HR.out.mono (by omega)⟩⟩
          case measure => simp [intOf]; omega
    · go_wp2
      go_ret
      exact RetV.mk _ rfl ⟨xs, OX.out, hlen, HO.out, HR.out.mono (by omega)⟩

set_option maxRecDepth 100000 in
set_option maxHeartbeats 6400000 in
theorem l20While1_any (g c : Nat) (w : World) (h : Rd g w c) (hc : c ≤ 100000000) :
    Calls Tryz.prog 168 #[.pointer (some ⟨g, 0, none⟩), .int .i64 1] w (RetV fun v w' => DrawnI g (c + 180) w v w' 40) := by
  have hg := h.lt
  have HR := Lib.hid h
  have HO := Lib.hid (Outside.refl g (g + 1) w)
  clear h
  go_enter Tryz.func168, Tryz.ntmps168
  go_wp2_with fail
  refine (pick_any g _ _ _ HR.out (by omega)).mono ?_
  rintro e w1 ⟨q1, rfl, i_, h_, r_⟩
  obtain ⟨i1_q1, i2_q1⟩ := i_.lt (by omega)
  clear i_
  have hs1 := h_.size
  replace HO := Lib.hid (HO.out.trans h_)
  replace HR := Lib.hid r_
  clear h_ r_
  go_wp2_with fail
  obtain ⟨w2, hw_⟩ : ∃ w_, w_ = w1.alloc (.cells #[.int .i64 (16 + q1)] 3) := ⟨_, rfl⟩
  obtain ⟨h_, K_, hs2⟩ := box_facts2 hw_
  have HL_ := Lib.hid hw_
  simp only [← hw_]
  clear hw_
  replace HO := Lib.hid (HO.out.below h_ (by omega)); replace HR := Lib.hid (HR.out.below h_ (by omega))
  clear h_
  have OA : Hid (OwnI w1.heap.size w2.heap.size 3 w2 (.slice (some ⟨w1.heap.size, 0, none⟩) 1 1) [16 + q1]) := Lib.hid (by rw [HL_.out]; exact one_own _ _)
  clear HL_ K_
  skip
  refine (pick_any g _ _ _ HR.out (by omega)).mono ?_
  rintro e w3 ⟨q2, rfl, i_, h_, r_⟩
  obtain ⟨i1_q2, i2_q2⟩ := i_.lt (by omega)
  clear i_
  have hs3 := h_.size
  replace OA := Lib.hid (OA.out.outside h_ (.inr (by omega)))
  replace HO := Lib.hid (HO.out.trans h_)
  replace HR := Lib.hid r_
  clear h_ r_
  obtain ⟨y, rfl⟩ : ∃ y : Nat, q2 = y := ⟨q2.toNat, by omega⟩
  go_wp2
  go_loopw [5, 6] (fun v i wr => ∃ (j : Nat) (a : Option Addr) (cap : Nat) (xs : List Int), v = .slice a xs.length cap ∧ j ≤ 2 ∧ i = .int .i64 j ∧ xs.length ≤ 40 ∧ Hid (OwnI w.heap.size wr.heap.size 3 wr (.slice a xs.length cap) xs ∧ Outside g (g + 1) w wr ∧ Rd g wr (c + 4 + 80 * (2 - j)))) (fun _ i _ => (intOf i).toNat)
  case atStart => exact ⟨y + 1, _, _, [16 + q1], rfl, by omega, by go_num, by simp, Lib.hid ⟨OA.out.lower (by omega) (by omega), HO.out, HR.out.mono (by omega)⟩⟩
  case round =>
    clear OA HO HR
    obtain ⟨j, a, cap, xs, rfl, hj, rfl, hlen, HQ⟩ := hrel
    have OX := Lib.hid HQ.out.1
    have HO := Lib.hid HQ.out.2.1
    have HR := Lib.hid HQ.out.2.2
    clear HQ
    have hsz := HO.out.size
    by_cases hj0 : 0 < j
    · skip
      go_wp2_with fail
      refine (pick_any g _ _ _ HR.out (by omega)).mono ?_
      rintro e w4 ⟨q3, rfl, i_, h_, r_⟩
      obtain ⟨i1_q3, i2_q3⟩ := i_.lt (by omega)
      clear i_
      have hs4 := h_.size
      replace OX := Lib.hid (OX.out.outside h_ (.inr (by omega)))
      replace HO := Lib.hid (HO.out.trans h_)
      replace HR := Lib.hid r_
      clear h_ r_
      go_wp2_with fail
      obtain ⟨w5, hw_⟩ : ∃ w_, w_ = w4.alloc (.cells #[.int .i64 (16 + q3)] 3) := ⟨_, rfl⟩
      obtain ⟨h_, K_, hs5⟩ := box_facts2 hw_
      have HL_ := Lib.hid hw_
      simp only [← hw_]
      clear hw_
      replace OX := Lib.hid (OX.out.below h_ (by omega)); replace HO := Lib.hid (HO.out.below h_ (by omega)); replace HR := Lib.hid (HR.out.below h_ (by omega))
      clear h_
      have ON : Hid (OwnI w4.heap.size w5.heap.size 3 w5 (.slice (some ⟨w4.heap.size, 0, none⟩) 1 1) [16 + q3]) := Lib.hid (by rw [HL_.out]; exact one_own _ _)
      clear HL_ K_
      skip
      refine (pick_any g _ _ _ HR.out (by omega)).mono ?_
      rintro e w6 ⟨q5, rfl, i_, h_, r_⟩
      obtain ⟨i1_q5, i2_q5⟩ := i_.lt (by omega)
      clear i_
      have hs6 := h_.size
      replace OX := Lib.hid (OX.out.outside h_ (.inr (by omega))); replace ON := Lib.hid (ON.out.outside h_ (.inr (by omega)))
      replace HO := Lib.hid (HO.out.trans h_)
      replace HR := Lib.hid r_
      clear h_ r_
      cases hq5 : q5 == 0
      · skip
        go_wp2_with fail
        refine (pick_any g _ _ _ HR.out (by omega)).mono ?_
        rintro e w7 ⟨q6, rfl, i_, h_, r_⟩
        obtain ⟨i1_q6, i2_q6⟩ := i_.lt (by omega)
        clear i_
        have hs7 := h_.size
        replace OX := Lib.hid (OX.out.outside h_ (.inr (by omega))); replace ON := Lib.hid (ON.out.outside h_ (.inr (by omega)))
        replace HO := Lib.hid (HO.out.trans h_)
        replace HR := Lib.hid r_
        clear h_ r_
        cases hq6 : q6 == 0
        · skip
          go_wp2_with fail
          refine (pick_any g _ _ _ HR.out (by omega)).mono ?_
          rintro e w8 ⟨q7, rfl, i_, h_, r_⟩
          obtain ⟨i1_q7, i2_q7⟩ := i_.lt (by omega)
          clear i_
          have hs8 := h_.size
          replace OX := Lib.hid (OX.out.outside h_ (.inr (by omega))); replace ON := Lib.hid (ON.out.outside h_ (.inr (by omega)))
          replace HO := Lib.hid (HO.out.trans h_)
          replace HR := Lib.hid r_
          clear h_ r_
          cases hq7 : q7 == 0
          · skip
            go_wp2_with fail
            refine (spec_KatThen _ _ _ _ _ _ xs [16 + q3] _ OX.out.sl ON.out.sl (by omega) (by omega) (by first | omega | (simp; omega))).mono ?_
            rintro e w9 ⟨vt, okt, rfl, h_, zt, ot, lt_⟩
            have hs9 := h_.size
            replace OX := Lib.hid (OX.out.below h_ (by omega)); replace ON := Lib.hid (ON.out.below h_ (by omega)); replace HO := Lib.hid (HO.out.below h_ (by omega)); replace HR := Lib.hid (HR.out.below h_ (by omega))
            have OT := Lib.hid (ot)
            obtain ⟨at_, ct_, rfl, _⟩ := Own.open ot
            clear ot
            clear h_
            go_wp2_with fail
            refine (pick_any g _ _ _ HR.out (by omega)).mono ?_
            rintro e w10 ⟨q4, rfl, i_, h_, r_⟩
            obtain ⟨i1_q4, i2_q4⟩ := i_.lt (by omega)
            clear i_
            have hs10 := h_.size
            replace OX := Lib.hid (OX.out.outside h_ (.inr (by omega))); replace ON := Lib.hid (ON.out.outside h_ (.inr (by omega))); replace OT := Lib.hid (OT.out.outside h_ (.inr (by omega)))
            replace HO := Lib.hid (HO.out.trans h_)
            replace HR := Lib.hid r_
            clear h_ r_
            cases hq4 : q4 == 0
            · cases okt
              · go_wp2
                go_roundw
                case rel => exact ⟨j - 1, _, _, xs, by first | rfl | simp, by omega, by go_num, by first | assumption | simp | omega, Lib.hid ⟨OX.out.lower (by omega) (by omega), HO.out, HR.out.mono (by omega)⟩⟩
                case measure => simp [intOf]; omega
              · go_wp2
                go_roundw
                case rel => exact ⟨j - 1, _, _, zt, by first | rfl | simp, by omega, by go_num, by first | assumption | simp | omega, Lib.hid ⟨OT.out.lower (by omega) (by omega), HO.out, HR.out.mono (by omega)⟩⟩
                case measure => simp [intOf]; omega
            · go_wp2
              go_roundw
              case rel => exact ⟨j - 1, _, _, [16 + q3], by first | rfl | simp, by omega, by go_num, by first | assumption | simp | omega, Lib.hid ⟨ON.out.lower (by omega) (by omega), HO.out, HR.out.mono (by omega)⟩⟩
              case measure => simp [intOf]; omega
          · go_wp2_with fail
            obtain ⟨w9, hw_⟩ : ∃ w_, w_ = w8.alloc (.cells #[.int .i64 15] 3) := ⟨_, rfl⟩
            obtain ⟨h_, K_, hs9⟩ := box_facts2 hw_
            have HL_ := Lib.hid hw_
            simp only [← hw_]
            clear hw_
            replace OX := Lib.hid (OX.out.below h_ (by omega)); replace ON := Lib.hid (ON.out.below h_ (by omega)); replace HO := Lib.hid (HO.out.below h_ (by omega)); replace HR := Lib.hid (HR.out.below h_ (by omega))
            clear h_
            have OF : Hid (OwnI w8.heap.size w9.heap.size 3 w9 (.slice (some ⟨w8.heap.size, 0, none⟩) 1 1) [15]) := Lib.hid (by rw [HL_.out]; exact one_own _ _)
            clear HL_ K_
            skip
            refine (spec_KatThen _ _ _ _ _ _ xs [15] _ OX.out.sl OF.out.sl (by omega) (by omega) (by first | omega | (simp; omega))).mono ?_
            rintro e w10 ⟨vt, okt, rfl, h_, zt, ot, lt_⟩
            have hs10 := h_.size
            replace OX := Lib.hid (OX.out.below h_ (by omega)); replace ON := Lib.hid (ON.out.below h_ (by omega)); replace OF := Lib.hid (OF.out.below h_ (by omega)); replace HO := Lib.hid (HO.out.below h_ (by omega)); replace HR := Lib.hid (HR.out.below h_ (by omega))
            have OT := Lib.hid (ot)
            obtain ⟨at_, ct_, rfl, _⟩ := Own.open ot
            clear ot
            clear h_
            go_wp2_with fail
            refine (pick_any g _ _ _ HR.out (by omega)).mono ?_
            rintro e w11 ⟨q4, rfl, i_, h_, r_⟩
            obtain ⟨i1_q4, i2_q4⟩ := i_.lt (by omega)
            clear i_
            have hs11 := h_.size
            replace OX := Lib.hid (OX.out.outside h_ (.inr (by omega))); replace ON := Lib.hid (ON.out.outside h_ (.inr (by omega))); replace OF := Lib.hid (OF.out.outside h_ (.inr (by omega))); replace OT := Lib.hid (OT.out.outside h_ (.inr (by omega)))
            replace HO := Lib.hid (HO.out.trans h_)
            replace HR := Lib.hid r_
            clear h_ r_
            cases hq4 : q4 == 0
            · cases okt
              · go_wp2
                go_roundw
                case rel => exact ⟨j - 1, _, _, xs, by first | rfl | simp, by omega, by go_num, by first | assumption | simp | omega, Lib.hid ⟨OX.out.lower (by omega) (by omega), HO.out, HR.out.mono (by omega)⟩⟩
                case measure => simp [intOf]; omega
              · go_wp2
                go_roundw
                case rel => exact ⟨j - 1, _, _, zt, by first | rfl | simp, by omega, by go_num, by first | assumption | simp | omega, Lib.hid ⟨OT.out.lower (by omega) (by omega), HO.out, HR.out.mono (by omega)⟩⟩
                case measure => simp [intOf]; omega
            · go_wp2
              go_roundw
              case rel => exact ⟨j - 1, _, _, [15], by first | rfl | simp, by omega, by go_num, by first | assumption | simp | omega, Lib.hid ⟨OF.out.lower (by omega) (by omega), HO.out, HR.out.mono (by omega)⟩⟩
              case measure => simp [intOf]; omega
        · skip
          go_wp2_with fail
          refine (l20Test_any g _ 0 _ HR.out (by omega) (by omega)).mono ?_
          rintro e w8 ⟨t1, rfl, ⟨i0_t1, i1_t1, i2_t1⟩, h_, r_⟩
          have hs8 := h_.size
          replace OX := Lib.hid (OX.out.outside h_ (.inr (by omega))); replace ON := Lib.hid (ON.out.outside h_ (.inr (by omega)))
          replace HO := Lib.hid (HO.out.trans h_)
          replace HR := Lib.hid r_
          clear h_ r_
          go_wp2_with fail
          refine (l20While0_any g _ _ HR.out (by omega)).mono ?_
          rintro e w9 ⟨v_OB, rfl, bs, o_, l_bs, h_, r_⟩
          have hs9 := h_.size
          replace OX := Lib.hid (OX.out.outside h_ (.inr (by omega))); replace ON := Lib.hid (ON.out.outside h_ (.inr (by omega)))
          replace HO := Lib.hid (HO.out.trans h_)
          replace HR := Lib.hid r_
          clear h_ r_
          have OB := Lib.hid o_
          clear o_
          obtain ⟨a_OB, c_OB, rfl, _, _⟩ := Sl.shape OB.out.sl
          go_wp2_with fail
          refine (spec_KatWhile _ _ _ bs t1 _ OB.out.sl (by omega) (by omega)).mono ?_
          rintro e w10 ⟨vk, okk, rfl, h_, ks, ok_, lk_, _⟩
          have hs10 := h_.size
          replace OX := Lib.hid (OX.out.below h_ (by omega)); replace ON := Lib.hid (ON.out.below h_ (by omega)); replace OB := Lib.hid (OB.out.below h_ (by omega)); replace HO := Lib.hid (HO.out.below h_ (by omega)); replace HR := Lib.hid (HR.out.below h_ (by omega))
          have OK := Lib.hid (ok_)
          obtain ⟨ak_, ck_, rfl, _⟩ := Own.open ok_
          clear ok_
          clear h_
          cases okk
          · skip
            go_wp2_with fail
            refine (spec_KatThen _ _ _ _ _ _ xs [16 + q3] _ OX.out.sl ON.out.sl (by omega) (by omega) (by first | omega | (simp; omega))).mono ?_
            rintro e w11 ⟨vt, okt, rfl, h_, zt, ot, lt_⟩
            have hs11 := h_.size
            replace OX := Lib.hid (OX.out.below h_ (by omega)); replace ON := Lib.hid (ON.out.below h_ (by omega)); replace OB := Lib.hid (OB.out.below h_ (by omega)); replace OK := Lib.hid (OK.out.below h_ (by omega)); replace HO := Lib.hid (HO.out.below h_ (by omega)); replace HR := Lib.hid (HR.out.below h_ (by omega))
            have OT := Lib.hid (ot)
            obtain ⟨at_, ct_, rfl, _⟩ := Own.open ot
            clear ot
            clear h_
            go_wp2_with fail
            refine (pick_any g _ _ _ HR.out (by omega)).mono ?_
            rintro e w12 ⟨q4, rfl, i_, h_, r_⟩
            obtain ⟨i1_q4, i2_q4⟩ := i_.lt (by omega)
            clear i_
            have hs12 := h_.size
            replace OX := Lib.hid (OX.out.outside h_ (.inr (by omega))); replace ON := Lib.hid (ON.out.outside h_ (.inr (by omega))); replace OB := Lib.hid (OB.out.outside h_ (.inr (by omega))); replace OK := Lib.hid (OK.out.outside h_ (.inr (by omega))); replace OT := Lib.hid (OT.out.outside h_ (.inr (by omega)))
            replace HO := Lib.hid (HO.out.trans h_)
            replace HR := Lib.hid r_
            clear h_ r_
            cases hq4 : q4 == 0
            · cases okt
              · go_wp2
                go_roundw
                case rel => exact ⟨j - 1, _, _, xs, by first | rfl | simp, by omega, by go_num, by first | assumption | simp | omega, Lib.hid ⟨OX.out.lower (by omega) (by omega), HO.out, HR.out.mono (by omega)⟩⟩
                case measure => simp [intOf]; omega
              · go_wp2
                go_roundw
                case rel => exact ⟨j - 1, _, _, zt, by first | rfl | simp, by omega, by go_num, by first | assumption | simp | omega, Lib.hid ⟨OT.out.lower (by omega) (by omega), HO.out, HR.out.mono (by omega)⟩⟩
                case measure => simp [intOf]; omega
            · go_wp2
              go_roundw
              case rel => exact ⟨j - 1, _, _, [16 + q3], by first | rfl | simp, by omega, by go_num, by first | assumption | simp | omega, Lib.hid ⟨ON.out.lower (by omega) (by omega), HO.out, HR.out.mono (by omega)⟩⟩
              case measure => simp [intOf]; omega
          · skip
            go_wp2_with fail
            refine (spec_KatThen _ _ _ _ _ _ xs ks _ OX.out.sl OK.out.sl (by omega) (by omega) (by first | omega | (simp; omega))).mono ?_
            rintro e w11 ⟨vt, okt, rfl, h_, zt, ot, lt_⟩
            have hs11 := h_.size
            replace OX := Lib.hid (OX.out.below h_ (by omega)); replace ON := Lib.hid (ON.out.below h_ (by omega)); replace OB := Lib.hid (OB.out.below h_ (by omega)); replace OK := Lib.hid (OK.out.below h_ (by omega)); replace HO := Lib.hid (HO.out.below h_ (by omega)); replace HR := Lib.hid (HR.out.below h_ (by omega))
            have OT := Lib.hid (ot)
            obtain ⟨at_, ct_, rfl, _⟩ := Own.open ot
            clear ot
            clear h_
            go_wp2_with fail
            refine (pick_any g _ _ _ HR.out (by omega)).mono ?_
            rintro e w12 ⟨q4, rfl, i_, h_, r_⟩
            obtain ⟨i1_q4, i2_q4⟩ := i_.lt (by omega)
            clear i_
            have hs12 := h_.size
            replace OX := Lib.hid (OX.out.outside h_ (.inr (by omega))); replace ON := Lib.hid (ON.out.outside h_ (.inr (by omega))); replace OB := Lib.hid (OB.out.outside h_ (.inr (by omega))); replace OK := Lib.hid (OK.out.outside h_ (.inr (by omega))); replace OT := Lib.hid (OT.out.outside h_ (.inr (by omega)))
            replace HO := Lib.hid (HO.out.trans h_)
            replace HR := Lib.hid r_
            clear h_ r_
            cases hq4 : q4 == 0
            · cases okt
              · go_wp2
                go_roundw
                case rel => exact ⟨j - 1, _, _, xs, by first | rfl | simp, by omega, by go_num, by first | assumption | simp | omega, Lib.hid ⟨OX.out.lower (by omega) (by omega), HO.out, HR.out.mono (by omega)⟩⟩
                case measure => simp [intOf]; omega
              · go_wp2
                go_roundw
                case rel => exact ⟨j - 1, _, _, zt, by first | rfl | simp, by omega, by go_num, by first | assumption | simp | omega, Lib.hid ⟨OT.out.lower (by omega) (by omega), HO.out, HR.out.mono (by omega)⟩⟩
                case measure => simp [intOf]; omega
            · go_wp2
              go_roundw
              case rel => exact ⟨j - 1, _, _, ks, by first | rfl | simp, by omega, by go_num, by first | assumption | simp | omega, Lib.hid ⟨OK.out.lower (by omega) (by omega), HO.out, HR.out.mono (by omega)⟩⟩
              case measure => simp [intOf]; omega
      · skip
        go_wp2_with fail
        refine (l20Test_any g _ 0 _ HR.out (by omega) (by omega)).mono ?_
        rintro e w7 ⟨t1, rfl, ⟨i0_t1, i1_t1, i2_t1⟩, h_, r_⟩
        have hs7 := h_.size
        replace OX := Lib.hid (OX.out.outside h_ (.inr (by omega))); replace ON := Lib.hid (ON.out.outside h_ (.inr (by omega)))
        replace HO := Lib.hid (HO.out.trans h_)
        replace HR := Lib.hid r_
        clear h_ r_
        go_wp2_with fail
        refine (l20While0_any g _ _ HR.out (by omega)).mono ?_
        rintro e w8 ⟨v_OB, rfl, bs, o_, l_bs, h_, r_⟩
        have hs8 := h_.size
        replace OX := Lib.hid (OX.out.outside h_ (.inr (by omega))); replace ON := Lib.hid (ON.out.outside h_ (.inr (by omega)))
        replace HO := Lib.hid (HO.out.trans h_)
        replace HR := Lib.hid r_
        clear h_ r_
        have OB := Lib.hid o_
        clear o_
        obtain ⟨a_OB, c_OB, rfl, _, _⟩ := Sl.shape OB.out.sl
        go_wp2_with fail
        refine (l20While0_any g _ _ HR.out (by omega)).mono ?_
        rintro e w9 ⟨v_OC, rfl, ds, o_, l_ds, h_, r_⟩
        have hs9 := h_.size
        replace OX := Lib.hid (OX.out.outside h_ (.inr (by omega))); replace ON := Lib.hid (ON.out.outside h_ (.inr (by omega))); replace OB := Lib.hid (OB.out.outside h_ (.inr (by omega)))
        replace HO := Lib.hid (HO.out.trans h_)
        replace HR := Lib.hid r_
        clear h_ r_
        have OC := Lib.hid o_
        clear o_
        obtain ⟨a_OC, c_OC, rfl, _, _⟩ := Sl.shape OC.out.sl
        go_wp2_with fail
        refine (spec_KatIf _ _ _ _ _ _ bs ds t1 _ OB.out.sl OC.out.sl (by omega) (by omega) (by omega)).mono ?_
        rintro e w10 ⟨vk, okk, rfl, h_, ks, ok_, lk_⟩
        have hs10 := h_.size
        replace OX := Lib.hid (OX.out.below h_ (by omega)); replace ON := Lib.hid (ON.out.below h_ (by omega)); replace OB := Lib.hid (OB.out.below h_ (by omega)); replace OC := Lib.hid (OC.out.below h_ (by omega)); replace HO := Lib.hid (HO.out.below h_ (by omega)); replace HR := Lib.hid (HR.out.below h_ (by omega))
        have OK := Lib.hid (ok_)
        obtain ⟨ak_, ck_, rfl, _⟩ := Own.open ok_
        clear ok_
        clear h_
        cases okk
        · skip
          go_wp2_with fail
          refine (spec_KatThen _ _ _ _ _ _ xs [16 + q3] _ OX.out.sl ON.out.sl (by omega) (by omega) (by first | omega | (simp; omega))).mono ?_
          rintro e w11 ⟨vt, okt, rfl, h_, zt, ot, lt_⟩
          have hs11 := h_.size
          replace OX := Lib.hid (OX.out.below h_ (by omega)); replace ON := Lib.hid (ON.out.below h_ (by omega)); replace OB := Lib.hid (OB.out.below h_ (by omega)); replace OC := Lib.hid (OC.out.below h_ (by omega)); replace OK := Lib.hid (OK.out.below h_ (by omega)); replace HO := Lib.hid (HO.out.below h_ (by omega)); replace HR := Lib.hid (HR.out.below h_ (by omega))
          have OT := Lib.hid (ot)
          obtain ⟨at_, ct_, rfl, _⟩ := Own.open ot
          clear ot
          clear h_
          go_wp2_with fail
          refine (pick_any g _ _ _ HR.out (by omega)).mono ?_
          rintro e w12 ⟨q4, rfl, i_, h_, r_⟩
          obtain ⟨i1_q4, i2_q4⟩ := i_.lt (by omega)
          clear i_
          have hs12 := h_.size
          replace OX := Lib.hid (OX.out.outside h_ (.inr (by omega))); replace ON := Lib.hid (ON.out.outside h_ (.inr (by omega))); replace OB := Lib.hid (OB.out.outside h_ (.inr (by omega))); replace OC := Lib.hid (OC.out.outside h_ (.inr (by omega))); replace OK := Lib.hid (OK.out.outside h_ (.inr (by omega))); replace OT := Lib.hid (OT.out.outside h_ (.inr (by omega)))
          replace HO := Lib.hid (HO.out.trans h_)
          replace HR := Lib.hid r_
          clear h_ r_
          cases hq4 : q4 == 0
          · cases okt
            · go_wp2
              go_roundw
              case rel => exact ⟨j - 1, _, _, xs, by first | rfl | simp, by omega, by go_num, by first | assumption | simp | omega, Lib.hid ⟨OX.out.lower (by omega) (by omega), HO.out, HR.out.mono (by omega)⟩⟩
              case measure => simp [intOf]; omega
            · go_wp2
              go_roundw
              case rel => exact ⟨j - 1, _, _, zt, by first | rfl | simp, by omega, by go_num, by first | assumption | simp | omega, Lib.hid ⟨OT.out.lower (by omega) (by omega), HO.out, HR.out.mono (by omega)⟩⟩
              case measure => simp [intOf]; omega
          · go_wp2
            go_roundw
            case rel => exact ⟨j - 1, _, _, [16 + q3], by first | rfl | simp, by omega, by go_num, by first | assumption | simp | omega, Lib.hid ⟨ON.out.lower (by omega) (by omega), HO.out, HR.out.mono (by omega)⟩⟩
            case measure => simp [intOf]; omega
        · skip
          go_wp2_with fail
          refine (spec_KatThen _ _ _ _ _ _ xs ks _ OX.out.sl OK.out.sl (by omega) (by omega) (by first | omega | (simp; omega))).mono ?_
          rintro e w11 ⟨vt, okt, rfl, h_, zt, ot, lt_⟩
          have hs11 := h_.size
          replace OX := Lib.hid (OX.out.below h_ (by omega)); replace ON := Lib.hid (ON.out.below h_ (by omega)); replace OB := Lib.hid (OB.out.below h_ (by omega)); replace OC := Lib.hid (OC.out.below h_ (by omega)); replace OK := Lib.hid (OK.out.below h_ (by omega)); replace HO := Lib.hid (HO.out.below h_ (by omega)); replace HR := Lib.hid (HR.out.below h_ (by omega))
          have OT := Lib.hid (ot)
          obtain ⟨at_, ct_, rfl, _⟩ := Own.open ot
          clear ot
          clear h_
          go_wp2_with fail
          refine (pick_any g _ _ _ HR.out (by omega)).mono ?_
          rintro e w12 ⟨q4, rfl, i_, h_, r_⟩
          obtain ⟨i1_q4, i2_q4⟩ := i_.lt (by omega)
          clear i_
          have hs12 := h_.size
          replace OX := Lib.hid (OX.out.outside h_ (.inr (by omega))); replace ON := Lib.hid (ON.out.outside h_ (.inr (by omega))); replace OB := Lib.hid (OB.out.outside h_ (.inr (by omega))); replace OC := Lib.hid (OC.out.outside h_ (.inr (by omega))); replace OK := Lib.hid (OK.out.outside h_ (.inr (by omega))); replace OT := Lib.hid (OT.out.outside h_ (.inr (by omega)))
          replace HO := Lib.hid (HO.out.trans h_)
          replace HR := Lib.hid r_
          clear h_ r_
          cases hq4 : q4 == 0
          · cases okt
            · go_wp2
              go_roundw
              case rel => exact ⟨j - 1, _, _, xs, by first | rfl | simp, by omega, by go_num, by first | assumption | simp | omega, Lib.hid ⟨OX.out.lower (by omega) (by omega), HO.out, HR.out.mono (by omega)⟩⟩
              case measure => simp [intOf]; omega
            · go_wp2
              go_roundw
              case rel => exact ⟨j - 1, _, _, zt, by first | rfl | simp, by omega, by go_num, by first | assumption | simp | omega, Lib.hid ⟨OT.out.lower (by omega) (by omega), HO.out, HR.out.mono (by omega)⟩⟩
              case measure => simp [intOf]; omega
          · go_wp2
            go_roundw
            case rel => exact ⟨j - 1, _, _, ks, by first | rfl | simp, by omega, by go_num, by first | assumption | simp | omega, Lib.hid ⟨OK.out.lower (by omega) (by omega), HO.out, HR.out.mono (by omega)⟩⟩
            case measure => simp [intOf]; omega
    · go_wp2
      go_ret
      exact RetV.mk _ rfl ⟨xs, OX.out, hlen, HO.out, HR.out.mono (by omega)⟩
end Go.Proofs.YtagjpecibpejmaaGreatDoor
