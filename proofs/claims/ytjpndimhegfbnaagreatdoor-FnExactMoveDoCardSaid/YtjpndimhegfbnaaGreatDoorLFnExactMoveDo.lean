/-
  Texts of walks and plain lemmas for this seat; no condition.
-/
import Derived.Test.YtjpndimhegfbnaaGreatDoorIMoveDo
import Derived.Test.YtjpndimhegfbnaaGreatDoorGH
import Derived.Test.YtjpndimhegfbnaaGreatDoorGG
import Derived.Test.YtjpndimhegfbnaaGreatDoorGA
import Derived.Deep.RegionHeldLaw
import Derived.Deep.RegionHeld3
import Derived.Deep.RegionWith
namespace Go.Proofs.YtjpndimhegfbnaaGreatDoor
open Go.RowKit

theorem moveV_len (xs : List Int) (m : Mv) : ((moveV xs m).getD []).length ≤ 40 := by
  cases h : moveV xs m with
  | none => simp
  | some x => exact (kat_len (moveV_kat' h)).2

set_option maxRecDepth 100000 in
set_option maxHeartbeats 6400000 in
theorem law_FnExactMoveDo (v : Value) (xs : List Int) (m : Mv) (w : World) (hx : SlI 0 w.heap.size w v xs) (hE : EnvK w) (hXX : EnvX w) :
    Calls Tryz.prog 12 #[v, aggM m] w fun e w' => e = .returned (.bool true) ∧ Below w.heap.size w w' := by
  obtain ⟨w0, hw0⟩ : ∃ w0, w0 = w.alloc (.cells #[.int .i64 m.which, .bool m.back, .int .i64 m.at_] 64) := ⟨_, rfl⟩
  have hb0 : Below w.heap.size w w0 := by rw [hw0]; exact (Below.refl _ _).alloc (Nat.le_refl _) _
  have hs0 : w0.heap.size = w.heap.size + 1 := by rw [hw0]; simp
  have KM := Lib.hid (show Blk w.heap.size (.cells #[.int .i64 m.which, .bool m.back, .int .i64 m.at_] 64) w0 by rw [hw0]; exact Blk.new w _)
  have HX := Lib.hid (hx.below hb0 (Nat.le_refl _))
  have HB := Lib.hid hb0
  have HE := Lib.hid hE
  have HXX := Lib.hid hXX
  have HW0 := Lib.hid hw0
  obtain ⟨a, cap, rfl, hcap, hcm⟩ := Sl.shape hx
  unfold maxLen at hcm
  clear hx hE hXX hb0 hw0
  by_cases hm : xs.length ≤ 1048576
  · have hout := moveV_len xs m
    obtain ⟨t, ht⟩ : ∃ t, (moveV xs m).isSome = t := ⟨_, rfl⟩
    obtain ⟨out, hd⟩ : ∃ out, (moveV xs m).getD [] = out := ⟨_, rfl⟩
    rw [hd] at hout
    have HT := Lib.hid ht
    have HD := Lib.hid hd
    have htt : (t != t) = false := by simp
    have ho : out.length ≤ 1048576 := by omega
    have hcnt : ((1 + (out.length : Int)) != 1 + out.length) = false := by simp
    clear ht hd
    go_enter Tryz.func12, Tryz.ntmps12
    go_wp2_with (rw [← HW0.out])
    go_wp2_with fail
    have hd_ : Below w0.heap.size w0 w0.drew := Below.drew (Below.refl _ _)
    have hdz_0 : w0.drew.heap.size = w0.heap.size := rfl
    have hS_ : w0.drew.cell? ⟨w.heap.size, 0, none⟩ = some (.int .i64 m.which) ∧ w0.drew.cell? ⟨w.heap.size, 1, none⟩ = some (.bool m.back) ∧ w0.drew.cell? ⟨w.heap.size, 2, none⟩ = some (.int .i64 m.at_) := ⟨KM.out.cell 0, KM.out.cell 1, KM.out.cell 2⟩
    replace HX := Lib.hid (HX.out.below hd_ (by omega))
    replace KM := Lib.hid (KM.out.below hd_ (by omega))
    replace HB := Lib.hid (HB.out.trans (hd_.mono (by omega)))
    go_region_held3 (fun w' => w'.cell? ⟨w.heap.size, 0, none⟩ = some (.int .i64 m.which) ∧ w'.cell? ⟨w.heap.size, 1, none⟩ = some (.bool m.back) ∧ w'.cell? ⟨w.heap.size, 2, none⟩ = some (.int .i64 m.at_)) (first | assumption | go_keep) (first
      | (go_at_call 31; refine (toIntS_any _ _ _ xs _ HX.out hm).mono ?_; rintro e_ w1 ⟨v_O1, rfl, hb_, o_⟩; (have hz_w1 := hb_.size); (replace HX := Lib.hid (HX.out.below hb_ (by omega))); (replace KM := Lib.hid (KM.out.below hb_ (by omega))); (replace HB := Lib.hid (HB.out.trans (hb_.mono (by omega)))); (have O1 := Lib.hid o_); (have hS_w1 : w1.cell? ⟨w.heap.size, 0, none⟩ = some (.int .i64 m.which) ∧ w1.cell? ⟨w.heap.size, 1, none⟩ = some (.bool m.back) ∧ w1.cell? ⟨w.heap.size, 2, none⟩ = some (.int .i64 m.at_) := ⟨KM.out.cell 0, KM.out.cell 1, KM.out.cell 2⟩); clear hb_ o_)
      | (go_at_call 55; refine (toMove_any m _).mono ?_; rintro e_ w2 ⟨rfl, hb_⟩; (have hz_w2 := hb_.size); (replace HX := Lib.hid (HX.out.below hb_ (by omega))); (replace KM := Lib.hid (KM.out.below hb_ (by omega))); (replace HB := Lib.hid (HB.out.trans (hb_.mono (by omega)))); (replace O1 := Lib.hid (O1.out.below hb_ (by omega))); (have hS_w2 : w2.cell? ⟨w.heap.size, 0, none⟩ = some (.int .i64 m.which) ∧ w2.cell? ⟨w.heap.size, 1, none⟩ = some (.bool m.back) ∧ w2.cell? ⟨w.heap.size, 2, none⟩ = some (.int .i64 m.at_) := ⟨KM.out.cell 0, KM.out.cell 1, KM.out.cell 2⟩); clear hb_)
      | (go_at_call 54; refine (spec_MoveDo _ xs m _ (SlI.rd O1.out.sl (by omega)) hm).mono ?_; rintro e_ w3 ⟨vd, _, rfl, hb_, rfl, o_⟩; (have hz_w3 := hb_.size); (replace HX := Lib.hid (HX.out.below hb_ (by omega))); (replace KM := Lib.hid (KM.out.below hb_ (by omega))); (replace HB := Lib.hid (HB.out.trans (hb_.mono (by omega)))); (have OD := Lib.hid (HD.out ▸ o_ : OwnI _ _ _ _ _ out)); (have hS_w3 : w3.cell? ⟨w.heap.size, 0, none⟩ = some (.int .i64 m.which) ∧ w3.cell? ⟨w.heap.size, 1, none⟩ = some (.bool m.back) ∧ w3.cell? ⟨w.heap.size, 2, none⟩ = some (.int .i64 m.at_) := ⟨KM.out.cell 0, KM.out.cell 1, KM.out.cell 2⟩); clear hb_ o_))
    rw [HT.out]
    obtain ⟨vd1, vd2, rfl, _, _⟩ := Sl.shape OD.out.sl
    clear O1
    go_wp2_with fail
    refine (toIntS_any _ _ _ xs _ HX.out hm).mono ?_
    rintro e w4 ⟨v_O1, rfl, h_, o_⟩
    have hs4 := h_.size
    replace HX := Lib.hid (HX.out.below h_ (by omega)); replace KM := Lib.hid (KM.out.below h_ (by omega)); replace OD := Lib.hid (OD.out.below h_ (by omega))
    replace HB := Lib.hid (HB.out.trans (h_.mono (by omega)))
    have O1 := Lib.hid (o_)
    clear o_
    clear h_
    have c_KM_0 := KM.out.cell 0
    have c_KM_1 := KM.out.cell 1
    have c_KM_2 := KM.out.cell 2
    go_wp2_with fail
    clear c_KM_0 c_KM_1 c_KM_2
    refine (toMove_any m _).mono ?_
    rintro e w5 ⟨rfl, h_⟩
    have hs5 := h_.size
    replace HX := Lib.hid (HX.out.below h_ (by omega)); replace KM := Lib.hid (KM.out.below h_ (by omega)); replace OD := Lib.hid (OD.out.below h_ (by omega)); replace O1 := Lib.hid (O1.out.below h_ (by omega))
    replace HB := Lib.hid (HB.out.trans (h_.mono (by omega)))
    clear h_
    go_wp2_with fail
    refine (impl_MoveDo _ xs m _ (HE.out.below HB.out) (HXX.out.below HB.out) (SlI.rd O1.out.sl (by omega)) hm).mono ?_
    rintro e w6 ⟨vg, _, rfl, h_, rfl, o_⟩
    have hs6 := h_.size
    replace HX := Lib.hid (HX.out.below h_ (by omega)); replace KM := Lib.hid (KM.out.below h_ (by omega)); replace OD := Lib.hid (OD.out.below h_ (by omega)); replace O1 := Lib.hid (O1.out.below h_ (by omega))
    replace HB := Lib.hid (HB.out.trans (h_.mono (by omega)))
    have OG := Lib.hid ((HD.out ▸ o_ : OwnI _ _ _ _ _ out))
    clear o_
    rw [HT.out]
    clear h_
    obtain ⟨vg1, vg2, rfl, _, _⟩ := Sl.shape OG.out.sl
    go_wp2_with fail
    refine (eqIntS_same _ _ _ _ _ _ out _ OG.out.sl OD.out.sl ho).mono ?_
    rintro e w7 ⟨rfl, h_⟩
    have hs7 := h_.size
    replace HX := Lib.hid (HX.out.below h_ (by omega)); replace KM := Lib.hid (KM.out.below h_ (by omega)); replace OD := Lib.hid (OD.out.below h_ (by omega)); replace O1 := Lib.hid (O1.out.below h_ (by omega)); replace OG := Lib.hid (OG.out.below h_ (by omega))
    replace HB := Lib.hid (HB.out.trans (h_.mono (by omega)))
    clear h_
    go_wp2_with fail
    refine (toIntS_any _ _ _ xs _ HX.out hm).mono ?_
    rintro e w8 ⟨v_O4, rfl, h_, o_⟩
    have hs8 := h_.size
    replace HX := Lib.hid (HX.out.below h_ (by omega)); replace KM := Lib.hid (KM.out.below h_ (by omega)); replace OD := Lib.hid (OD.out.below h_ (by omega)); replace O1 := Lib.hid (O1.out.below h_ (by omega)); replace OG := Lib.hid (OG.out.below h_ (by omega))
    replace HB := Lib.hid (HB.out.trans (h_.mono (by omega)))
    have O4 := Lib.hid (o_)
    clear o_
    clear h_
    go_wp2_with fail
    refine (eqIntS_same _ _ _ _ _ _ xs _ O1.out.sl O4.out.sl hm).mono ?_
    rintro e w9 ⟨rfl, h_⟩
    have hs9 := h_.size
    replace HX := Lib.hid (HX.out.below h_ (by omega)); replace KM := Lib.hid (KM.out.below h_ (by omega)); replace OD := Lib.hid (OD.out.below h_ (by omega)); replace O1 := Lib.hid (O1.out.below h_ (by omega)); replace OG := Lib.hid (OG.out.below h_ (by omega))
    replace HB := Lib.hid (HB.out.trans (h_.mono (by omega)))
    clear h_
    clear O4
    go_wp2_with fail
    refine (markIntS_any _ _ _ xs 1 _ O1.out hm (by omega) (by omega)).mono ?_
    rintro e w10 ⟨rfl, h_, o_⟩
    have hs10 := h_.size
    replace HX := Lib.hid (HX.out.outside h_ (by omega)); replace KM := Lib.hid (KM.out.outside h_ (by omega)); replace OD := Lib.hid (OD.out.outside h_ (by omega)); replace OG := Lib.hid (OG.out.outside h_ (by omega))
    replace HB := Lib.hid (Below.outside HB.out h_ (by omega) (by omega))
    clear O1 o_
    clear h_
    go_wp2_with fail
    refine (eqIntS_same _ _ _ _ _ _ out _ OG.out.sl OD.out.sl ho).mono ?_
    rintro e w11 ⟨rfl, h_⟩
    have hs11 := h_.size
    replace HX := Lib.hid (HX.out.below h_ (by omega)); replace KM := Lib.hid (KM.out.below h_ (by omega)); replace OD := Lib.hid (OD.out.below h_ (by omega)); replace OG := Lib.hid (OG.out.below h_ (by omega))
    replace HB := Lib.hid (HB.out.trans (h_.mono (by omega)))
    clear h_
    go_wp2_with fail
    refine (markIntS_any _ _ _ out 1 _ OG.out ho (by omega) (by omega)).mono ?_
    rintro e w12 ⟨rfl, h_, o_⟩
    have hs12 := h_.size
    replace HX := Lib.hid (HX.out.outside h_ (by omega)); replace KM := Lib.hid (KM.out.outside h_ (by omega)); replace OD := Lib.hid (OD.out.outside h_ (by omega))
    replace HB := Lib.hid (Below.outside HB.out h_ (by omega) (by omega))
    replace OG := Lib.hid (o_)
    clear o_
    clear h_
    go_wp2_with fail
    refine (heldIntS_any _ _ _ out.length 1 _ OG.out.sl ho (by omega) (by omega)).mono ?_
    rintro e w_ ⟨rfl, rfl⟩
    go_wp2_with fail
    have hd_ : Below w_.heap.size w_ w_.drew := Below.drew (Below.refl _ _)
    have hdz_12 : w_.drew.heap.size = w_.heap.size := rfl
    have hS_ : w_.drew.cell? ⟨w.heap.size, 0, none⟩ = some (.int .i64 m.which) ∧ w_.drew.cell? ⟨w.heap.size, 1, none⟩ = some (.bool m.back) ∧ w_.drew.cell? ⟨w.heap.size, 2, none⟩ = some (.int .i64 m.at_) := ⟨KM.out.cell 0, KM.out.cell 1, KM.out.cell 2⟩
    replace HX := Lib.hid (HX.out.below hd_ (by omega))
    replace KM := Lib.hid (KM.out.below hd_ (by omega))
    replace OD := Lib.hid (OD.out.below hd_ (by omega))
    replace OG := Lib.hid (OG.out.below hd_ (by omega))
    replace HB := Lib.hid (HB.out.trans (hd_.mono (by omega)))
    go_region_held3 (fun w' => w'.cell? ⟨w.heap.size, 0, none⟩ = some (.int .i64 m.which) ∧ w'.cell? ⟨w.heap.size, 1, none⟩ = some (.bool m.back) ∧ w'.cell? ⟨w.heap.size, 2, none⟩ = some (.int .i64 m.at_)) (first | assumption | go_keep) (first
      | (go_at_call 31; refine (toIntS_any _ _ _ xs _ HX.out hm).mono ?_; rintro e_ w13 ⟨v_O1, rfl, hb_, o_⟩; (have hz_w13 := hb_.size); (replace HX := Lib.hid (HX.out.below hb_ (by omega))); (replace KM := Lib.hid (KM.out.below hb_ (by omega))); (replace OD := Lib.hid (OD.out.below hb_ (by omega))); (replace OG := Lib.hid (OG.out.below hb_ (by omega))); (replace HB := Lib.hid (HB.out.trans (hb_.mono (by omega)))); (have O1 := Lib.hid o_); (have hS_w13 : w13.cell? ⟨w.heap.size, 0, none⟩ = some (.int .i64 m.which) ∧ w13.cell? ⟨w.heap.size, 1, none⟩ = some (.bool m.back) ∧ w13.cell? ⟨w.heap.size, 2, none⟩ = some (.int .i64 m.at_) := ⟨KM.out.cell 0, KM.out.cell 1, KM.out.cell 2⟩); clear hb_ o_)
      | (go_at_call 55; refine (toMove_any m _).mono ?_; rintro e_ w14 ⟨rfl, hb_⟩; (have hz_w14 := hb_.size); (replace HX := Lib.hid (HX.out.below hb_ (by omega))); (replace KM := Lib.hid (KM.out.below hb_ (by omega))); (replace OD := Lib.hid (OD.out.below hb_ (by omega))); (replace OG := Lib.hid (OG.out.below hb_ (by omega))); (replace HB := Lib.hid (HB.out.trans (hb_.mono (by omega)))); (replace O1 := Lib.hid (O1.out.below hb_ (by omega))); (have hS_w14 : w14.cell? ⟨w.heap.size, 0, none⟩ = some (.int .i64 m.which) ∧ w14.cell? ⟨w.heap.size, 1, none⟩ = some (.bool m.back) ∧ w14.cell? ⟨w.heap.size, 2, none⟩ = some (.int .i64 m.at_) := ⟨KM.out.cell 0, KM.out.cell 1, KM.out.cell 2⟩); clear hb_)
      | (go_at_call 56; refine (impl_MoveDo _ xs m _ (HE.out.below HB.out) (HXX.out.below HB.out) (SlI.rd O1.out.sl (by omega)) hm).mono ?_; rintro e_ w15 ⟨vh, _, rfl, hb_, rfl, o_⟩; (have hz_w15 := hb_.size); (replace HX := Lib.hid (HX.out.below hb_ (by omega))); (replace KM := Lib.hid (KM.out.below hb_ (by omega))); (replace OD := Lib.hid (OD.out.below hb_ (by omega))); (replace OG := Lib.hid (OG.out.below hb_ (by omega))); (replace HB := Lib.hid (HB.out.trans (hb_.mono (by omega)))); (have OH := Lib.hid (HD.out ▸ o_ : OwnI _ _ _ _ _ out)); (have hS_w15 : w15.cell? ⟨w.heap.size, 0, none⟩ = some (.int .i64 m.which) ∧ w15.cell? ⟨w.heap.size, 1, none⟩ = some (.bool m.back) ∧ w15.cell? ⟨w.heap.size, 2, none⟩ = some (.int .i64 m.at_) := ⟨KM.out.cell 0, KM.out.cell 1, KM.out.cell 2⟩); clear hb_ o_))
    rw [HT.out]
    obtain ⟨vh1, vh2, rfl, _, _⟩ := Sl.shape OH.out.sl
    clear O1
    go_wp2_with fail
    refine (eqIntS_same _ _ _ _ _ _ out _ OH.out.sl OD.out.sl ho).mono ?_
    rintro e w16 ⟨rfl, h_⟩
    have hs16 := h_.size
    replace HX := Lib.hid (HX.out.below h_ (by omega)); replace KM := Lib.hid (KM.out.below h_ (by omega)); replace OD := Lib.hid (OD.out.below h_ (by omega)); replace OG := Lib.hid (OG.out.below h_ (by omega)); replace OH := Lib.hid (OH.out.below h_ (by omega))
    replace HB := Lib.hid (HB.out.trans (h_.mono (by omega)))
    clear h_
    go_wp2_with fail
    refine (heldIntS_any _ _ _ out.length 1 _ OG.out.sl ho (by omega) (by omega)).mono ?_
    rintro e w_ ⟨rfl, rfl⟩
    go_wp2
    go_ret
    exact ⟨rfl, HB.out⟩
  · go_enter Tryz.func12, Tryz.ntmps12
    go_wp2
    go_ret
    exact ⟨rfl, (Below.refl _ _).alloc (Nat.le_refl _) _⟩
end Go.Proofs.YtjpndimhegfbnaaGreatDoor
