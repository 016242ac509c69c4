/-
  Texts of walks and plain lemmas for this seat; no condition.
-/
import Derived.Test.YtagjpecibpejmaaGreatDoorGK
import Derived.Test.YtagjpecibpejmaaGreatDoorGG
import Derived.Test.YtagjpecibpejmaaGreatDoorGI
import Derived.Lib.BufferMore
import Derived.Deep.RegionHeldLaw
import Derived.Deep.RegionHeld3
import Derived.Deep.RegionWith
namespace Go.Proofs.YtagjpecibpejmaaGreatDoor
open Go.RowKit

set_option maxRecDepth 100000 in
set_option maxHeartbeats 1600000 in
/-- slices.Clone of moves. -/
theorem cloneM_any (lo hi : Nat) (v : Value) (xs : List Mv) (w : World) (hx : SlM lo hi w v xs) (hm : xs.length ≤ 1048576) :
    Calls Tryz.prog 114 #[v] w (RetV fun v' w' => Below w.heap.size w w' ∧ OwnM w.heap.size w'.heap.size 43 w' v' xs) := by
  obtain ⟨a, cap, rfl, hcap, hcm, hl, hnone, hc⟩ := hx
  cases a with
  | none =>
    obtain rfl := hnone rfl
    have hx0 : xs = [] := List.eq_nil_of_length_eq_zero (by omega)
    subst hx0
    have heq : ∀ w, (binOp .eql 32 (.slice none 0 0) (.slice none 0 0)).run Tryz.prog w = .ok (.bool true) w := fun w => Lib.run_eql_slice_nil_nil w 0 0 Tryz.underlying32
    go_enter Tryz.func114, Tryz.ntmps114
    go_wp2
    go_ret
    exact RetV.mk _ rfl ⟨Below.refl _ _, Own.nil _ _ _ _ _⟩
  | some ad =>
    have HX : Hid (Sl 3 lo hi w (.slice (some ad) xs.length cap) xs.length (mvs xs)) := Lib.hid ⟨some ad, cap, rfl, hcap, hcm, hl, hnone, hc⟩
    have HOL : Hid (Own 3 w.heap.size (w.heap.size + 1) 43 (w.alloc (.cells #[] 43)) (.slice (some ⟨w.heap.size, 0, none⟩) 0 0) 0 []) := Lib.hid (Own.lit 3 43 w [] 0 (by omega) rfl)
    have HA := Lib.hid ((Below.refl w.heap.size w).alloc (Nat.le_refl _) (.cells #[] 43))
    have HXA : Hid (Sl 3 lo hi (w.alloc (.cells #[] 43)) (.slice (some ad) xs.length cap) xs.length (mvs xs)) := by
      refine Lib.hid ⟨some ad, cap, rfl, hcap, hcm, hl, hnone, fun i hi' => ?_⟩
      obtain ⟨b, off, e, e1, e2, e3, e4⟩ := hc i hi'
      exact ⟨b, off, e, e1, e2, by simp; omega, by rw [World.cell?_alloc_lt _ _ ⟨b, off + i, none⟩ e3]; exact e4⟩
    have heq : ∀ w, (binOp .eql 32 (.slice (some ad) xs.length cap) (.slice none 0 0)).run Tryz.prog w = .ok (.bool false) w := fun w => Lib.run_eql_slice_some_nil w ad xs.length cap Tryz.underlying32
    clear hl hnone hc
    go_enter Tryz.func114, Tryz.ntmps114
    go_wp2_with (at_builtin; go_loud (refine wpList_app_sl rfl _ _ 32 rfl 43 (.agg #[.int .i64 0, .bool false, .int .i64 0]) 3 24 Tryz.underlying32 info_mv rfl (by decide) (by decide) rfl HOL.out rfl HXA.out (mvs_one _) (by omega) (by simp) ?_))
    intro v2 w2 ho2 _ hout2 _
    have HO2 := Lib.hid ho2
    have HB2 := Lib.hid (Below.outside HA.out hout2 (Nat.le_refl _) (by simp))
    obtain ⟨a2, c2, rfl, _⟩ := Own.open ho2
    clear ho2 hout2
    go_wp2
    go_ret
    exact RetV.mk _ rfl ⟨HB2.out, HO2.out⟩

set_option maxRecDepth 100000 in
set_option maxHeartbeats 3200000 in
theorem desk_clone (lo hi : Nat) (a b c d : Value) (D : Dsk) (w : World) (hx : DeskAt lo hi w a b c d D) (hh : hi ≤ w.heap.size) (hm : D.size ≤ 1048576) :
    Calls Tryz.prog 82 #[aggD a b c d] w (DeskRet w D) := by
  unfold Dsk.size at hm
  obtain ⟨w0, hw0⟩ : ∃ w0, w0 = (w.alloc (.cells #[a, b, c, d] 58)).alloc (.cells #[.slice none 0 0, .slice none 0 0, .slice none 0 0, .slice none 0 0] 58) := ⟨_, rfl⟩
  have hb0 : Below w.heap.size w w0 := by rw [hw0]; exact ((Below.refl _ _).alloc (Nat.le_refl _) _).alloc (by simp) _
  have hs0 : w0.heap.size = w.heap.size + 2 := by rw [hw0]; simp
  have K1 : Hid (Blk w.heap.size (.cells #[a, b, c, d] 58) w0) := by
    rw [hw0]
    exact Lib.hid ((Blk.new w _).below ((Below.refl (w.alloc _).heap.size _).alloc (Nat.le_refl _) _) (by simp))
  have K2 : Hid (Blk (w.heap.size + 1) (.cells #[.slice none 0 0, .slice none 0 0, .slice none 0 0, .slice none 0 0] 58) w0) := by
    have h := Blk.new (w.alloc (.cells #[a, b, c, d] 58)) (.cells #[.slice none 0 0, .slice none 0 0, .slice none 0 0, .slice none 0 0] 58)
    rw [alloc_size] at h
    rw [hw0]; exact Lib.hid h
  have hbd : Below w0.heap.size w0 w0.drew := Below.drew (Below.refl _ _)
  have hdz : w0.drew.heap.size = w0.heap.size := rfl
  have HX := Lib.hid ((hx.below hb0 hh).below hbd (by omega))
  have HB := Lib.hid (hb0.trans (hbd.mono (by omega)))
  have K1d := Lib.hid (K1.out.below hbd K1.out.lt)
  have K2d := Lib.hid (K2.out.below hbd K2.out.lt)
  have hS : w0.drew.cell? ⟨w.heap.size, 0, none⟩ = some a ∧ w0.drew.cell? ⟨w.heap.size, 1, none⟩ = some b ∧ w0.drew.cell? ⟨w.heap.size, 2, none⟩ = some c ∧ w0.drew.cell? ⟨w.heap.size, 3, none⟩ = some d := ⟨K1d.out.cell 0, K1d.out.cell 1, K1d.out.cell 2, K1d.out.cell 3⟩
  have HW0 := Lib.hid hw0
  clear hx hb0 hw0 hbd
  go_enter Tryz.func82, Tryz.ntmps82
  go_wp2_with (rw [← HW0.out])
  go_region_held3 (fun w' => w'.cell? ⟨w.heap.size, 0, none⟩ = some a ∧ w'.cell? ⟨w.heap.size, 1, none⟩ = some b ∧ w'.cell? ⟨w.heap.size, 2, none⟩ = some c ∧ w'.cell? ⟨w.heap.size, 3, none⟩ = some d) (first | assumption | go_keep) (first
    | (go_at_call_of 58 a; refine (cloneI_any _ _ a D.first _ HX.out.first (by omega)).mono ?_; rintro e1 w1 ⟨v1, rfl, hbx, ho⟩; obtain ⟨x1, y1, rfl, _⟩ := Own.open ho; (have hz1 := hbx.size); (have HX1 := Lib.hid (HX.out.below hbx (by omega))); (have KA1 := Lib.hid (K1d.out.below hbx K1d.out.lt)); (have KB1 := Lib.hid (K2d.out.below hbx K2d.out.lt)); (have HB1 := Lib.hid (HB.out.trans (hbx.mono HB.out.size))); (have O1_1 := Lib.hid ho); (have hS1 : w1.cell? ⟨w.heap.size, 0, none⟩ = some a ∧ w1.cell? ⟨w.heap.size, 1, none⟩ = some b ∧ w1.cell? ⟨w.heap.size, 2, none⟩ = some c ∧ w1.cell? ⟨w.heap.size, 3, none⟩ = some d := ⟨KA1.out.cell 0, KA1.out.cell 1, KA1.out.cell 2, KA1.out.cell 3⟩); clear hbx ho)
    | (go_at_call_of 58 b; refine (cloneI_any _ _ b D.goal _ HX1.out.goal (by omega)).mono ?_; rintro e2 w2 ⟨v2, rfl, hbx, ho⟩; obtain ⟨x2, y2, rfl, _⟩ := Own.open ho; (have hz2 := hbx.size); (have HX2 := Lib.hid (HX1.out.below hbx (by omega))); (have KA2 := Lib.hid (KA1.out.below hbx KA1.out.lt)); (have KB2 := Lib.hid (KB1.out.below hbx KB1.out.lt)); (have HB2 := Lib.hid (HB1.out.trans (hbx.mono HB1.out.size))); (have O1_2 := Lib.hid (O1_1.out.below hbx (by omega))); (have O2_2 := Lib.hid ho); (have hS2 : w2.cell? ⟨w.heap.size, 0, none⟩ = some a ∧ w2.cell? ⟨w.heap.size, 1, none⟩ = some b ∧ w2.cell? ⟨w.heap.size, 2, none⟩ = some c ∧ w2.cell? ⟨w.heap.size, 3, none⟩ = some d := ⟨KA2.out.cell 0, KA2.out.cell 1, KA2.out.cell 2, KA2.out.cell 3⟩); clear hbx ho)
    | (go_at_call_of 114 c; refine (cloneM_any _ _ c D.made _ HX2.out.made (by omega)).mono ?_; rintro e3 w3 ⟨v3, rfl, hbx, ho⟩; obtain ⟨x3, y3, rfl, _⟩ := Own.open ho; (have hz3 := hbx.size); (have HX3 := Lib.hid (HX2.out.below hbx (by omega))); (have KA3 := Lib.hid (KA2.out.below hbx KA2.out.lt)); (have KB3 := Lib.hid (KB2.out.below hbx KB2.out.lt)); (have HB3 := Lib.hid (HB2.out.trans (hbx.mono HB2.out.size))); (have O1_3 := Lib.hid (O1_2.out.below hbx (by omega))); (have O2_3 := Lib.hid (O2_2.out.below hbx (by omega))); (have O3_3 := Lib.hid ho); (have hS3 : w3.cell? ⟨w.heap.size, 0, none⟩ = some a ∧ w3.cell? ⟨w.heap.size, 1, none⟩ = some b ∧ w3.cell? ⟨w.heap.size, 2, none⟩ = some c ∧ w3.cell? ⟨w.heap.size, 3, none⟩ = some d := ⟨KA3.out.cell 0, KA3.out.cell 1, KA3.out.cell 2, KA3.out.cell 3⟩); clear hbx ho)
    | (go_at_call_of 58 d; refine (cloneI_any _ _ d D.now _ HX3.out.now (by omega)).mono ?_; rintro e4 w4 ⟨v4, rfl, hbx, ho⟩; obtain ⟨x4, y4, rfl, _⟩ := Own.open ho; (have hz4 := hbx.size); (have HX4 := Lib.hid (HX3.out.below hbx (by omega))); (have KA4 := Lib.hid (KA3.out.below hbx KA3.out.lt)); (have KB4 := Lib.hid (KB3.out.below hbx KB3.out.lt)); (have HB4 := Lib.hid (HB3.out.trans (hbx.mono HB3.out.size))); (have O1_4 := Lib.hid (O1_3.out.below hbx (by omega))); (have O2_4 := Lib.hid (O2_3.out.below hbx (by omega))); (have O3_4 := Lib.hid (O3_3.out.below hbx (by omega))); (have O4_4 := Lib.hid ho); (have hS4 : w4.cell? ⟨w.heap.size, 0, none⟩ = some a ∧ w4.cell? ⟨w.heap.size, 1, none⟩ = some b ∧ w4.cell? ⟨w.heap.size, 2, none⟩ = some c ∧ w4.cell? ⟨w.heap.size, 3, none⟩ = some d := ⟨KA4.out.cell 0, KA4.out.cell 1, KA4.out.cell 2, KA4.out.cell 3⟩); (have r0 := KB4.out.cell 0); (have f0 := KB4.out.free 0); (have r1 := KB4.out.cell 1); (have f1 := KB4.out.free 1); (have r2 := KB4.out.cell 2); (have f2 := KB4.out.free 2); (have r3 := KB4.out.cell 3); (have f3 := KB4.out.free 3); clear hbx ho))
  all_goals (
    obtain ⟨wz, hwz⟩ : ∃ wz, wz = (((w4.setCell ⟨w.heap.size + 1, 0, none⟩ (.slice x1 D.first.length y1)).setCell ⟨w.heap.size + 1, 1, none⟩ (.slice x2 D.goal.length y2)).setCell ⟨w.heap.size + 1, 2, none⟩ (.slice x3 D.made.length y3)).setCell ⟨w.heap.size + 1, 3, none⟩ (.slice x4 D.now.length y4) := ⟨_, rfl⟩
    have KZ := KB4.out.set4 (.slice x1 D.first.length y1) (.slice x2 D.goal.length y2) (.slice x3 D.made.length y3) (.slice x4 D.now.length y4)
    have hO := Outside.set4 (w.heap.size + 1) w4 (.slice x1 D.first.length y1) (.slice x2 D.goal.length y2) (.slice x3 D.made.length y3) (.slice x4 D.now.length y4)
    rw [← hwz] at KZ hO
    have hsz := hO.size
    have HZ := Lib.hid (Below.outside HB4.out hO (by omega) HB4.out.size)
    have P1 := Lib.hid (O1_4.out.outside hO (.inr (by omega)))
    have P2 := Lib.hid (O2_4.out.outside hO (.inr (by omega)))
    have P3 := Lib.hid (O3_4.out.outside hO (.inr (by omega)))
    have P4 := Lib.hid (O4_4.out.outside hO (.inr (by omega)))
    have q0 := KZ.cell 0
    have q1 := KZ.cell 1
    have q2 := KZ.cell 2
    have q3 := KZ.cell 3
    clear KZ hO
    go_wp2
    simp only [← hwz]
    clear hwz
    refine bodyPost_ret (v := .agg #[(.slice x1 D.first.length y1), (.slice x2 D.goal.length y2), (.slice x3 D.made.length y3), (.slice x4 D.now.length y4)]) (by simp [results, Tryz.results82, go_sem, q0, q1, q2, q3]) rfl ⟨_, _, _, _, rfl, ?_, HZ.out⟩
    exact ⟨_, _, _, _, _, _, _, _, P1.out, P2.out, P3.out, P4.out, by omega, by omega, by omega, by omega, by omega, by omega, by omega, by omega, by omega, by omega⟩)
end Go.Proofs.YtagjpecibpejmaaGreatDoor
