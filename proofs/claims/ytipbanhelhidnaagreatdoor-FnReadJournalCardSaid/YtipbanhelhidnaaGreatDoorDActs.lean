/-
  Texts of walks and plain lemmas for this seat; no condition.
-/
import Derived.Test.YtipbanhelhidnaaGreatDoorDDesk
import Derived.Test.YtipbanhelhidnaaGreatDoorAcs
import Derived.Test.YtipbanhelhidnaaGreatDoorActInfo
namespace Go.Proofs.YtipbanhelhidnaaGreatDoor
open Go.RowKit

theorem encAc_one (a : Ac) : ∀ u ∈ encAc a, u.oneCell' = true := by
  intro u hu
  simp only [encAc, List.mem_cons, List.not_mem_nil, or_false] at hu
  rcases hu with rfl | rfl | rfl | rfl | rfl <;> rfl
theorem OwnA.low {lo hi lo' hi' e : Nat} {w : World} {v : Value} {xs : List Ac} (h : OwnA lo hi e w v xs) (h1 : lo' ≤ lo) (h2 : hi ≤ hi') : OwnA lo' hi' e w v xs := by
  obtain ⟨⟨hl, h3⟩, h4⟩ := h
  refine ⟨⟨hl, ?_⟩, fun k hk => Nat.lt_of_lt_of_le (h4 k hk) h2⟩
  rcases h3 with h3 | ⟨g, cap, cur, e1, e2, e3⟩
  · exact .inl h3
  · exact .inr ⟨g, cap, cur, e1, Nat.le_trans h1 e2, e3⟩
/-- Acts that a draw has made. -/
abbrev DrawnA (g c : Nat) (w : World) (most : Nat) : Ending → World → Prop := RetV fun v w' => ∃ acl : List Ac, OwnA w.heap.size w'.heap.size 41 w' v acl ∧ acl.length ≤ most ∧ Outside g (g + 1) w w' ∧ Rd g w' c

set_option maxRecDepth 100000 in
set_option maxHeartbeats 12800000 in
theorem l20Acts_any (g c lo hi : Nat) (d0 d1 d2 d3 : Value) (D : Dsk) (w : World) (h : Rd g w c) (hc : c ≤ 500000) (hx : DeskAt lo hi w d0 d1 d2 d3 D) (hh : hi ≤ w.heap.size) (hap : g + 1 ≤ lo) (hm : D.size ≤ 10000) :
    Calls Tryz.prog 26 #[.pointer (some ⟨g, 0, none⟩), aggD d0 d1 d2 d3] w (DrawnA g (c + 2000) w 6) := by
  have hg := h.lt
  obtain ⟨p0, r0, p1, r1, p2, r2, p3, r3, i0, i1, i2, i3, l0, l1, l2, l3⟩ := hx.shapes
  subst i0 i1 i2 i3
  clear l0 l1 l2 l3
  obtain ⟨w0, hw0⟩ : ∃ w0, w0 = w.alloc (.cells #[.slice p0 D.first.length r0, .slice p1 D.goal.length r1, .slice p2 D.made.length r2, .slice p3 D.now.length r3] 31) := ⟨_, rfl⟩
  obtain ⟨hb0, KB_, hs0⟩ := box_facts2 hw0
  have KB := Lib.hid KB_
  have HR := Lib.hid (h.below hb0 hg)
  have HO := Lib.hid ((Outside.refl g (g + 1) w).below hb0 (Nat.le_refl _))
  have HX := Lib.hid (hx.below hb0 hh)
  clear h hb0 KB_ hx
  obtain ⟨w1, hw1⟩ : ∃ w1, w1 = w0.alloc (.cells #[] 41) := ⟨_, rfl⟩
  have OA : Hid (OwnA w0.heap.size (w0.heap.size + 1) 41 w1 (.slice (some ⟨w0.heap.size, 0, none⟩) 0 0) []) := by
    rw [hw1]
    exact Lib.hid (show Own 5 w0.heap.size (w0.heap.size + 1) 41 _ _ _ _ from Own.lit 5 41 w0 [] 0 (by omega) rfl)
  obtain ⟨hb1, _, hs1⟩ := box_facts2 hw1
  replace HR := Lib.hid (HR.out.below hb1 HR.out.lt)
  replace HO := Lib.hid (HO.out.below hb1 (by omega))
  replace HX := Lib.hid (HX.out.below hb1 (by omega))
  replace KB := Lib.hid (KB.out.below hb1 KB.out.lt)
  clear hb1
  obtain ⟨w2, hw2⟩ : ∃ w2, w2 = w1.alloc (.cells #[.slice p0 D.first.length r0, .slice p1 D.goal.length r1, .slice p2 D.made.length r2, .slice p3 D.now.length r3] 31) := ⟨_, rfl⟩
  obtain ⟨hb2, KD_, hs2⟩ := box_facts2 hw2
  have KD := Lib.hid KD_
  have k_0 := KB.out.cell 0
  have k_1 := KB.out.cell 1
  have k_2 := KB.out.cell 2
  have k_3 := KB.out.cell 3
  replace HR := Lib.hid (HR.out.below hb2 HR.out.lt)
  replace HO := Lib.hid (HO.out.below hb2 (by omega))
  replace HX := Lib.hid (HX.out.below hb2 (by omega))
  replace OA := Lib.hid (OA.out.below hb2 (by omega))
  have hgd1 := KD_.lt
  clear hb2 KD_
  have HW0 := Lib.hid hw0
  have HW1 := Lib.hid hw1
  have HW2 := Lib.hid hw2
  clear hw0 hw1 hw2
  go_enter Tryz.func26, Tryz.ntmps26
  go_upto_region 3 with (first | rw [← HW0.out] | rw [← HW1.out] | rw [← HW2.out])
  try rw [← HW2.out]
  clear k_0 k_1 k_2 k_3 KB HW0 HW1 HW2
  go_wp2_with fail
  refine (pick_any g _ 7 _ HR.out (by omega)).mono ?_
  rintro e w3 ⟨q3, rfl, i_, h_, r_⟩
  have hs_w3 := h_.size
  replace KD := Lib.hid (KD.out.outside h_ (.inr (by omega)))
  replace HX := Lib.hid (HX.out.outside h_ (.inr (by omega)))
  replace OA := Lib.hid (OA.out.outside h_ (.inr (by omega)))
  replace HO := Lib.hid (HO.out.trans h_)
  replace HR := Lib.hid r_
  clear h_ r_
  obtain ⟨i1_, i2_⟩ := i_.lt (by omega)
  clear i_
  obtain ⟨k3, rfl⟩ : ∃ k : Nat, q3 = k := ⟨q3.toNat, by omega⟩
  go_wp2_with fail
  go_loopw [5, 7] (fun ov kv wr => ∃ (j : Nat) (acl : List Ac) (oa : Option Addr) (oc : Nat), ov = .slice oa acl.length oc ∧ kv = .int .i64 j ∧ j ≤ 6 ∧ acl.length + j ≤ 6 ∧ Hid (w2.heap.size ≤ wr.heap.size ∧ Outside g (g + 1) w wr ∧ Rd g wr (c + 10 + 130 * (6 - j)) ∧ ∃ lo_ hi_ l h y0 y1 y2 y3 D, OwnA lo_ hi_ 41 wr (.slice oa acl.length oc) acl ∧ w.heap.size ≤ lo_ ∧ lo_ ≤ hi_ ∧ hi_ ≤ wr.heap.size ∧ (w1.heap.size < lo_ ∨ hi_ ≤ w1.heap.size) ∧ Blk w1.heap.size (.cells #[y0, y1, y2, y3] 31) wr ∧ DeskAt l h wr y0 y1 y2 y3 D ∧ D.size ≤ 10000 ∧ g + 1 ≤ l ∧ h ≤ wr.heap.size ∧ (w1.heap.size < l ∨ h ≤ w1.heap.size) ∧ (hi_ ≤ l ∨ h ≤ lo_))) (fun _ k _ => (intOf k).toNat)
  case atStart => exact ⟨k3, [], _, _, rfl, rfl, by omega, by simp; omega, Lib.hid ⟨by omega, HO.out, HR.out.mono (by omega), _, _, _, _, _, _, _, _, D, OA.out, by omega, by omega, by omega, by omega, KD.out, HX.out, hm, hap, by omega, by omega, by omega⟩⟩
  case round =>
    clear HO HR KD HX OA hap hh hm
    obtain ⟨j, acl, oa, oc, rfl, rfl, hj6, haj, HQ⟩ := hrel
    obtain ⟨hsr, ho_, hr_, lo_, hi_, l, h, y0, y1, y2, y3, D, oa_, hlo1, hlohi, hhi1, hgo, kd_, od_, hds, hl, hh, hdd, hod⟩ := HQ.out
    have HO := Lib.hid ho_
    have HR := Lib.hid hr_
    have KD := Lib.hid kd_
    have OD := Lib.hid od_
    have OA := Lib.hid oa_
    have hgl := kd_.lt
    clear HQ ho_ hr_ kd_ od_ oa_
    obtain ⟨p0, r0, p1, r1, p2, r2, p3, r3, i0, i1, i2, i3, l0, l1, l2, l3⟩ := OD.out.shapes
    subst i0 i1 i2 i3
    clear l0 l1 l2 l3
    by_cases hpos : 0 < j
    · skip
      have k_0 := KD.out.cell 0
      have k_1 := KD.out.cell 1
      have k_2 := KD.out.cell 2
      have k_3 := KD.out.cell 3
      go_wp2_with fail
      clear k_0 k_1 k_2 k_3
      refine (l20Act_any g _ l h _ _ _ _ D _ HR.out (by omega) OD.out hh hl (by omega)).mono ?_
      rintro e w4 ⟨A, rfl, h_, r_⟩
      have hs_w4 := h_.size
      replace KD := Lib.hid (KD.out.outside h_ (.inr (by omega)))
      replace OD := Lib.hid (OD.out.outside h_ (.inr (by omega)))
      replace OA := Lib.hid (OA.out.outside h_ (.inr (by omega)))
      replace HO := Lib.hid (HO.out.trans h_)
      replace HR := Lib.hid r_
      clear h_ r_

      obtain ⟨w5, hw_⟩ : ∃ w_, w_ = w4.alloc (.cells #[.int .i64 A.kind, .int .i64 A.step.which, .bool A.step.back, .int .i64 A.step.at_, .int .i64 A.count] 41) := ⟨_, rfl⟩
      obtain ⟨hb_, K_, hs_w5⟩ := box_facts2 hw_
      replace HR := Lib.hid (HR.out.below hb_ HR.out.lt)
      have h_ := Outside.of_below (lo := g) (hi := g + 1) hb_ (Nat.le_refl _)
      replace KD := Lib.hid (KD.out.outside h_ (.inr (by omega)))
      replace OD := Lib.hid (OD.out.outside h_ (.inr (by omega)))
      replace OA := Lib.hid (OA.out.outside h_ (.inr (by omega)))
      replace HO := Lib.hid (HO.out.trans h_)
      clear h_ hb_
      have KA := Lib.hid K_
      have k_0 := KD.out.cell 0
      have k_1 := KD.out.cell 1
      have k_2 := KD.out.cell 2
      have k_3 := KD.out.cell 3
      have a_0 := KA.out.cell 0
      have a_1 := KA.out.cell 1
      have a_2 := KA.out.cell 2
      have a_3 := KA.out.cell 3
      have a_4 := KA.out.cell 4
      have HW5 := Lib.hid hw_
      clear hw_ K_
      go_upto_region 7 with (rw [← HW5.out])
      try rw [← HW5.out]
      clear HW5
      go_wp2_with fail
      clear k_0 k_1 k_2 k_3 a_0 a_1 a_2 a_3 a_4
      refine (spec_DeskDo l h _ _ _ _ D A w5 OD.out (by omega) (by omega)).mono ?_
      rintro e w6 ⟨x0, x1, x2, x3, t, rfl, od_, rfl, hb_⟩
      replace HR := Lib.hid (HR.out.below hb_ HR.out.lt)
      have h_ := Outside.of_below (lo := g) (hi := g + 1) hb_ (Nat.le_refl _)
      have hs_w6 := h_.size
      replace KD := Lib.hid (KD.out.outside h_ (.inr (by omega)))
      replace OD := Lib.hid (OD.out.outside h_ (.inr (by omega)))
      replace OA := Lib.hid (OA.out.outside h_ (.inr (by omega)))
      replace KA := Lib.hid (KA.out.outside h_ (.inr (by omega)))
      replace HO := Lib.hid (HO.out.trans h_)
      clear h_ hb_
      have OX := Lib.hid od_
      clear od_
      have hX := deskDo_size2 D A
      obtain ⟨X, tt, hXe⟩ : ∃ X tt, deskDo D A = (X, tt) := ⟨_, _, rfl⟩
      rw [hXe] at OX hX ⊢
      clear hXe
      obtain ⟨q0, s0, q1, s1, q2, s2, q3, s3, i0, i1, i2, i3⟩ := OX.out.open
      subst i0 i1 i2 i3
      have hX4 : X.size ≤ 180 := hX
      clear hX
      obtain ⟨w7, hw_⟩ : ∃ w_, w_ = w6.alloc (.cells #[.slice q0 X.first.length s0, .slice q1 X.goal.length s1, .slice q2 X.made.length s2, .slice q3 X.now.length s3] 31) := ⟨_, rfl⟩
      obtain ⟨hb_, K_, hs_w7⟩ := box_facts2 hw_
      replace HR := Lib.hid (HR.out.below hb_ HR.out.lt)
      have h_ := Outside.of_below (lo := g) (hi := g + 1) hb_ (Nat.le_refl _)
      replace KD := Lib.hid (KD.out.outside h_ (.inr (by omega)))
      replace OD := Lib.hid (OD.out.outside h_ (.inr (by omega)))
      replace OA := Lib.hid (OA.out.outside h_ (.inr (by omega)))
      replace KA := Lib.hid (KA.out.outside h_ (.inr (by omega)))
      replace OX := Lib.hid (OX.out.outside h_ (.inr (by omega)))
      replace HO := Lib.hid (HO.out.trans h_)
      clear h_ hb_
      have KX := Lib.hid K_
      have HW7 := Lib.hid hw_
      clear hw_ K_
      go_upto_region 8 with (rw [← HW7.out])
      try rw [← HW7.out]
      clear HW7
      go_upto_if 28 with fail
      go_cut [] (fun wx => Hid (w7.heap.size ≤ wx.heap.size ∧ Outside g (g + 1) w wx ∧ Rd g wx (c + 10 + 130 * (6 - (j - 1))) ∧ Blk w4.heap.size (.cells #[.int .i64 A.kind, .int .i64 A.step.which, .bool A.step.back, .int .i64 A.step.at_, .int .i64 A.count] 41) wx ∧ OwnA lo_ hi_ 41 wx (.slice oa acl.length oc) acl ∧ ∃ l h y0 y1 y2 y3 D, Blk w1.heap.size (.cells #[y0, y1, y2, y3] 31) wx ∧ DeskAt l h wx y0 y1 y2 y3 D ∧ D.size ≤ 10000 ∧ g + 1 ≤ l ∧ h ≤ wx.heap.size ∧ (w1.heap.size < l ∨ h ≤ w1.heap.size) ∧ (hi_ ≤ l ∨ h ≤ lo_)))
      case first =>
        cases tt
        · go_wp2_with fail
          go_meet
          exact Lib.hid ⟨by omega, HO.out, HR.out.mono (by omega), KA.out, OA.out, l, h, _, _, _, _, D, KD.out, OD.out, hds, hl, by omega, hdd, hod⟩
        · skip
          have x_0 := KX.out.cell 0
          have x_1 := KX.out.cell 1
          have x_2 := KX.out.cell 2
          have x_3 := KX.out.cell 3
          have k_0 := KD.out.cell 0
          have k_1 := KD.out.cell 1
          have k_2 := KD.out.cell 2
          have k_3 := KD.out.cell 3
          have f_0 := KD.out.free 0
          have f_1 := KD.out.free 1
          have f_2 := KD.out.free 2
          have f_3 := KD.out.free 3
          obtain ⟨wz, hwz⟩ : ∃ wz, wz = ((((w7.setCell ⟨w1.heap.size, 0, none⟩ (.slice q0 X.first.length s0)).setCell ⟨w1.heap.size, 1, none⟩ (.slice q1 X.goal.length s1)).setCell ⟨w1.heap.size, 2, none⟩ (.slice q2 X.made.length s2)).setCell ⟨w1.heap.size, 3, none⟩ (.slice q3 X.now.length s3)) := ⟨_, rfl⟩
          have OZ := Outside.set4 w1.heap.size w7 (.slice q0 X.first.length s0) (.slice q1 X.goal.length s1) (.slice q2 X.made.length s2) (.slice q3 X.now.length s3)
          have KZ := KD.out.set4 (.slice q0 X.first.length s0) (.slice q1 X.goal.length s1) (.slice q2 X.made.length s2) (.slice q3 X.now.length s3)
          rw [← hwz] at OZ KZ
          have HKZ := Lib.hid KZ
          have hs_z := OZ.size
          have OXZ := Lib.hid (OX.out.outside OZ (.inr (by omega)))
          have HNW := Lib.hid (And.intro (HO.out.fresh OZ (by omega)) (And.intro (HR.out.outside OZ (by omega)) (And.intro (KA.out.outside OZ (.inr (by omega))) (OA.out.outside OZ (by omega)))))
          clear OZ KZ
          go_wp2_with fail
          simp only [← hwz]
          clear hwz
          go_meet
          exact Lib.hid ⟨by omega, HNW.out.1, HNW.out.2.1.mono (by omega), HNW.out.2.2.1, HNW.out.2.2.2, w5.heap.size, w6.heap.size, _, _, _, _, X, HKZ.out, OXZ.out.at, by omega, by omega, by omega, by omega, by omega⟩
      case rest =>
        obtain ⟨w8, rfl⟩ : ∃ x_, x_ = wc := ⟨_, rfl⟩
        clear HO HR KD OD OA KA OX KX
        obtain ⟨hs_8, ho_, hr_, ka_, oa_, l', h', y0, y1, y2, y3, D', kd_, od_, hds', hl', hh', hdd', hod'⟩ := hcut.out
        have HO := Lib.hid ho_
        have HR := Lib.hid hr_
        have KD := Lib.hid kd_
        have OD := Lib.hid od_
        have OA := Lib.hid oa_
        have KA := Lib.hid ka_
        clear hcut ho_ hr_ ka_ oa_ kd_ od_
        have hk4 := KA.out.lt
        have a_0 := KA.out.cell 0
        have a_1 := KA.out.cell 1
        have a_2 := KA.out.cell 2
        have a_3 := KA.out.cell 3
        have a_4 := KA.out.cell 4
        go_upto_region 5 with (at_builtin; refine wpList_app_lit2 w8 rfl _ _ _ (by rfl) 41 (.agg #[.int .i64 0, .int .i64 0, .bool false, .int .i64 0, .int .i64 0]) 5 40 Tryz.underlying24 info_act rfl (by decide) (by decide) (by rfl) OA.out 1 (encAc A) (by rfl) rfl (encAc_one A) rfl (by omega) (by omega) ?_; intro v9 w9 lo9 hi9 hown9 hrange9 hout9; obtain ⟨a9, c9, rfl⟩ := Own.shape hown9; (have H9 := Lib.hid (And.intro hown9 (And.intro hrange9 hout9))); clear hown9 hrange9 hout9)
        clear a_0 a_1 a_2 a_3 a_4
        obtain ⟨hown9, hrange9, hout9⟩ := H9.out
        clear H9
        have hs_9 := hout9.size
        replace KD := Lib.hid (KD.out.outside hout9 (by omega))
        replace OD := Lib.hid (OD.out.outside hout9 (by omega))
        replace HO := Lib.hid (HO.out.fresh hout9 (by omega))
        replace HR := Lib.hid (HR.out.outside hout9 (by omega))
        have OA9 : Hid (OwnA lo9 hi9 41 w9 (.slice a9 (acl ++ [A]).length c9) (acl ++ [A])) := Lib.hid (by have h_ := hown9; simpa [OwnA, acs] using h_)
        have hgd8 : w1.heap.size < w8.heap.size := by omega
        clear hown9 hout9 OA
        go_wp2
        go_roundw
        case rel => exact ⟨j - 1, acl ++ [A], _, _, by simp, by first | go_num | (congr 1; omega), by omega, by simp; omega, Lib.hid ⟨by omega, HO.out, HR.out, lo9, hi9, l', h', _, _, _, _, D', OA9.out, by omega, by omega, by omega, by omega, KD.out, OD.out, hds', hl', by omega, hdd', by omega⟩⟩
        case measure => simp [intOf]; omega
    · obtain rfl : j = 0 := by omega
      go_wp2
      go_ret
      exact RetV.mk _ rfl ⟨acl, OA.out.low hlo1 hhi1, by omega, HO.out, HR.out.mono (by omega)⟩
end Go.Proofs.YtipbanhelhidnaaGreatDoor
