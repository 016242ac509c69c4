/-
  Texts of walks and plain lemmas for this seat; no condition.
-/
import Derived.Test.YtagjpecibpejmaaGreatDoorDSmall
import Derived.Test.YtagjpecibpejmaaGreatDoorAppKeep
import Derived.Test.YtagjpecibpejmaaGreatDoorGJ
namespace Go.Proofs.YtagjpecibpejmaaGreatDoor
open Go.RowKit

/-- What a draw of two lists leaves. -/
abbrev DrawnII (g c : Nat) (w : World) (most : Nat) : Ending → World → Prop := RetVV fun va vb w' => ∃ xs ys : List Int, SlI w.heap.size w'.heap.size w' va xs ∧ SlI w.heap.size w'.heap.size w' vb ys ∧ xs.length ≤ most ∧ ys.length ≤ most ∧ Outside g (g + 1) w w' ∧ Rd g w' c

set_option maxRecDepth 100000 in
set_option maxHeartbeats 12800000 in
theorem l20Laws_any (g c : Nat) (w : World) (h : Rd g w c) (hc : c ≤ 10000000) :
    Calls Tryz.prog 101 #[.pointer (some ⟨g, 0, none⟩)] w (DrawnII g (c + 1200) w 44) := by
  have hg := h.lt
  have HR := Lib.hid h
  have HO := Lib.hid (Outside.refl g (g + 1) w)
  clear h
  go_enter Tryz.func101, Tryz.ntmps101
  go_wp2_with fail
  refine (l20Small_any g _ 14 _ HR.out (by omega) (by omega)).mono ?_
  rintro e w1 ⟨v_OE, rfl, es, o_, l_es, h_, r_⟩
  have hs1 := h_.size
  replace HO := Lib.hid (HO.out.trans h_)
  replace HR := Lib.hid r_
  clear h_ r_
  have OE := Lib.hid o_
  clear o_
  obtain ⟨a_OE, c_OE, rfl, _, _⟩ := Sl.shape OE.out.sl
  go_wp2_with fail
  refine (l20Leaf_any g _ _ HR.out (by omega)).mono ?_
  rintro e w2 ⟨v_OF, rfl, fs, o_, l_fs, h_, r_⟩
  have hs2 := h_.size
  replace OE := Lib.hid (OE.out.outside h_ (.inr (by omega)))
  replace HO := Lib.hid (HO.out.trans h_)
  replace HR := Lib.hid r_
  clear h_ r_
  have OF := Lib.hid o_
  clear o_
  obtain ⟨a_OF, c_OF, rfl, _, _⟩ := Sl.shape OF.out.sl
  go_wp2_with fail
  refine (l20Leaf_any g _ _ HR.out (by omega)).mono ?_
  rintro e w3 ⟨v_OG, rfl, gs, o_, l_gs, h_, r_⟩
  have hs3 := h_.size
  replace OE := Lib.hid (OE.out.outside h_ (.inr (by omega))); replace OF := Lib.hid (OF.out.outside h_ (.inr (by omega)))
  replace HO := Lib.hid (HO.out.trans h_)
  replace HR := Lib.hid r_
  clear h_ r_
  have OG := Lib.hid o_
  clear o_
  obtain ⟨a_OG, c_OG, rfl, _, _⟩ := Sl.shape OG.out.sl
  cases hk : katV es
  · go_wp2_with (go_at_call 24; refine (spec_KatValid _ _ _ es _ OE.out.sl (by omega)).mono ?_; rintro e w' ⟨rfl, rfl⟩)
    go_ret2
    exact ⟨_, _, rfl, es, fs, OE.out.sl.wide (by omega) (by omega), OF.out.sl.wide (by omega) (by omega), by omega, by omega, HO.out, HR.out.mono (by omega)⟩
  by_cases h9 : 9 < es.length
  · go_wp2_with (go_at_call 24; refine (spec_KatValid _ _ _ es _ OE.out.sl (by omega)).mono ?_; rintro e w' ⟨rfl, rfl⟩)
    go_ret2
    exact ⟨_, _, rfl, es, fs, OE.out.sl.wide (by omega) (by omega), OF.out.sl.wide (by omega) (by omega), by omega, by omega, HO.out, HR.out.mono (by omega)⟩
  have HK := Lib.hid hk
  go_wp2_with fail
  refine (spec_KatValid _ _ _ es _ OE.out.sl (by omega)).mono ?_
  rintro e _ ⟨rfl, rfl⟩
  rw [HK.out]
  clear hk
  have h0 : Hid (Own 1 w3.heap.size (w3.heap.size + 1) 3 (w3.alloc (.cells (ints []).toArray 3)) (.slice (some ⟨w3.heap.size, 0, none⟩) 0 0) 0 (ints [])) := Lib.hid (Own.lit 1 3 w3 (ints []) 0 (by omega) rfl)
  obtain ⟨w4, hw_⟩ : ∃ w_, w_ = w3.alloc (.cells (ints []).toArray 3) := ⟨_, rfl⟩
  obtain ⟨h_, K_, hs4⟩ := box_facts2 hw_
  rw [← hw_] at h0
  replace OE := Lib.hid (OE.out.below h_ (by omega)); replace OF := Lib.hid (OF.out.below h_ (by omega)); replace OG := Lib.hid (OG.out.below h_ (by omega)); replace HO := Lib.hid (HO.out.below h_ (by omega)); replace HR := Lib.hid (HR.out.below h_ (by omega))
  have HWZ := Lib.hid (show w3.alloc (.cells #[] 3) = w4 from hw_.symm)
  clear hw_ h_ K_
  go_wp2_with (at_builtin; go_loud (rw [HWZ.out]; refine wpList_app_sl rfl _ _ 24 rfl 3 (.int .i64 0) 1 8 Tryz.underlying24 info_int rfl (by decide) (by decide) rfl h0.out rfl OE.out.sl (ints_one _) (by omega) (by omega) ?_))
  intro v_ w5 o_ _ h_ _
  have hs5 := h_.size
  replace OE := Lib.hid (OE.out.outside h_ (by omega)); replace OF := Lib.hid (OF.out.outside h_ (by omega)); replace OG := Lib.hid (OG.out.outside h_ (by omega))
  replace HO := Lib.hid (HO.out.fresh h_ (by omega))
  replace HR := Lib.hid (HR.out.outside h_ (by omega))
  have O0 : Hid (OwnI w3.heap.size w5.heap.size 3 w5 v_ es) := Lib.hid (by unfold OwnI; simpa [ints] using o_)
  obtain ⟨a_O0, c_O0, rfl, _⟩ := Own.open O0.out
  clear o_ h_ h0 HWZ
  have hown := O0.out
  go_wp2_with (at_builtin; refine wpList_app_lit w5 rfl _ _ 24 rfl 3 (.int .i64 0) 1 8 Tryz.underlying24 info_int rfl (by decide) (by decide) rfl hown 1 (ints [21]) rfl rfl (ints_one _) rfl (by omega) (by omega) ?_)
  intro v_ w6 o_ h_ _
  have hs6 := h_.size
  replace OE := Lib.hid (OE.out.outside h_ (by omega)); replace OF := Lib.hid (OF.out.outside h_ (by omega)); replace OG := Lib.hid (OG.out.outside h_ (by omega))
  replace HO := Lib.hid (HO.out.fresh h_ (by omega))
  replace HR := Lib.hid (HR.out.outside h_ (by omega))
  have OS : Hid (OwnI _ w6.heap.size 3 w6 v_ (es ++ [21])) := Lib.hid (by unfold OwnI; simpa [ints] using o_)
  have l_ss : (es ++ [21]).length = es.length + 1 := by simp
  generalize es ++ [21] = ss at OS l_ss
  obtain ⟨a_OS, c_OS, rfl, _⟩ := Own.open OS.out
  have la_ss := Nat.le_of_eq l_ss
  have lb_ss := Nat.le_of_eq l_ss.symm
  clear l_ss
  clear hown o_ h_
  clear O0
  go_wp2_with fail
  refine (pick_any g _ _ _ HR.out (by omega)).mono ?_
  rintro e w7 ⟨q, rfl, i_, h_, r_⟩
  obtain ⟨i1_q, i2_q⟩ := i_.lt (by omega)
  clear i_
  have hs7 := h_.size
  replace OE := Lib.hid (OE.out.outside h_ (.inr (by omega))); replace OF := Lib.hid (OF.out.outside h_ (.inr (by omega))); replace OG := Lib.hid (OG.out.outside h_ (.inr (by omega))); replace OS := Lib.hid (OS.out.outside h_ (.inr (by omega)))
  replace HO := Lib.hid (HO.out.trans h_)
  replace HR := Lib.hid r_
  clear h_ r_
  have hq : q = 0 ∨ q = 1 ∨ q = 2 ∨ q = 3 ∨ q = 4 ∨ q = 5 ∨ q = 6 ∨ q = 7 ∨ q = 8 := by omega
  clear i1_q i2_q
  rcases hq with rfl | rfl | rfl | rfl | rfl | rfl | rfl | rfl | rfl
  · skip
    go_wp2_with fail
    obtain ⟨w8, hw_⟩ : ∃ w_, w_ = w7.alloc (.cells #[.int .i64 15] 3) := ⟨_, rfl⟩
    obtain ⟨h_, K_, hs8⟩ := box_facts2 hw_
    have HL_ := Lib.hid hw_
    simp only [← hw_]
    clear hw_
    replace OE := Lib.hid (OE.out.below h_ (by omega)); replace OF := Lib.hid (OF.out.below h_ (by omega)); replace OG := Lib.hid (OG.out.below h_ (by omega)); replace OS := Lib.hid (OS.out.below h_ (by omega)); replace HO := Lib.hid (HO.out.below h_ (by omega)); replace HR := Lib.hid (HR.out.below h_ (by omega))
    clear h_
    have OL : Hid (OwnI w7.heap.size w8.heap.size 3 w8 (.slice (some ⟨w7.heap.size, 0, none⟩) 1 1) [15]) := Lib.hid (by rw [HL_.out]; exact one_own _ _)
    clear HL_ K_
    skip
    refine (l2Join_any _ _ _ _ _ _ es ss 19 _ OE.out.sl OS.out.sl (by omega) (by omega) (by first | omega | (simp; omega))).mono ?_
    rintro e w9 ⟨v_J1, rfl, h_, o_⟩
    have hs9 := h_.size
    replace OE := Lib.hid (OE.out.below h_ (by omega)); replace OF := Lib.hid (OF.out.below h_ (by omega)); replace OG := Lib.hid (OG.out.below h_ (by omega)); replace OS := Lib.hid (OS.out.below h_ (by omega)); replace OL := Lib.hid (OL.out.below h_ (by omega)); replace HO := Lib.hid (HO.out.below h_ (by omega)); replace HR := Lib.hid (HR.out.below h_ (by omega))
    clear h_
    have l_j1 : (es ++ ss ++ [19]).length = es.length + ss.length + 1 := by simp; try omega
    generalize es ++ ss ++ [19] = j1 at o_ l_j1
    have la_j1 := Nat.le_of_eq l_j1
    have lb_j1 := Nat.le_of_eq l_j1.symm
    clear l_j1
    have J1 := Lib.hid o_
    obtain ⟨a_J1, c_J1, rfl, _⟩ := Own.open o_
    clear o_
    go_wp2_with fail
    refine (l2Join_any _ _ _ _ _ _ [15] j1 20 _ OL.out.sl J1.out.sl (by omega) (by omega) (by first | omega | (simp; omega))).mono ?_
    rintro e w10 ⟨v_J2, rfl, h_, o_⟩
    have hs10 := h_.size
    replace OE := Lib.hid (OE.out.below h_ (by omega)); replace OF := Lib.hid (OF.out.below h_ (by omega)); replace OG := Lib.hid (OG.out.below h_ (by omega)); replace OS := Lib.hid (OS.out.below h_ (by omega)); replace OL := Lib.hid (OL.out.below h_ (by omega)); replace J1 := Lib.hid (J1.out.below h_ (by omega)); replace HO := Lib.hid (HO.out.below h_ (by omega)); replace HR := Lib.hid (HR.out.below h_ (by omega))
    clear h_
    have l_j2 : ([15] ++ j1 ++ [20]).length = 1 + j1.length + 1 := by simp; try omega
    generalize [15] ++ j1 ++ [20] = j2 at o_ l_j2
    have la_j2 := Nat.le_of_eq l_j2
    have lb_j2 := Nat.le_of_eq l_j2.symm
    clear l_j2
    have J2 := Lib.hid o_
    obtain ⟨a_J2, c_J2, rfl, _⟩ := Own.open o_
    clear o_
    go_wp2
    go_ret2
    exact ⟨_, _, rfl, ss, j2, (OS.out.sl).wide (by omega) (by omega), (J2.out.sl).wide (by omega) (by omega), by omega, by omega, HO.out, HR.out.mono (by omega)⟩
  · skip
    go_wp2_with fail
    refine (l2Join_any _ _ _ _ _ _ es fs 20 _ OE.out.sl OF.out.sl (by omega) (by omega) (by first | omega | (simp; omega))).mono ?_
    rintro e w8 ⟨v_J1, rfl, h_, o_⟩
    have hs8 := h_.size
    replace OE := Lib.hid (OE.out.below h_ (by omega)); replace OF := Lib.hid (OF.out.below h_ (by omega)); replace OG := Lib.hid (OG.out.below h_ (by omega)); replace OS := Lib.hid (OS.out.below h_ (by omega)); replace HO := Lib.hid (HO.out.below h_ (by omega)); replace HR := Lib.hid (HR.out.below h_ (by omega))
    clear h_
    have l_j1 : (es ++ fs ++ [20]).length = es.length + fs.length + 1 := by simp; try omega
    generalize es ++ fs ++ [20] = j1 at o_ l_j1
    have la_j1 := Nat.le_of_eq l_j1
    have lb_j1 := Nat.le_of_eq l_j1.symm
    clear l_j1
    have J1 := Lib.hid o_
    obtain ⟨a_J1, c_J1, rfl, _⟩ := Own.open o_
    clear o_
    have hown := J1.out
    go_wp2_with (at_builtin; refine wpList_app_lit w8 rfl _ _ 24 rfl 3 (.int .i64 0) 1 8 Tryz.underlying24 info_int rfl (by decide) (by decide) rfl hown 1 (ints [21]) rfl rfl (ints_one _) rfl (by omega) (by omega) ?_)
    intro v_ w9 o_ h_ _
    have hs9 := h_.size
    replace OE := Lib.hid (OE.out.outside h_ (by omega)); replace OF := Lib.hid (OF.out.outside h_ (by omega)); replace OG := Lib.hid (OG.out.outside h_ (by omega)); replace OS := Lib.hid (OS.out.outside h_ (by omega))
    replace HO := Lib.hid (HO.out.fresh h_ (by omega))
    replace HR := Lib.hid (HR.out.outside h_ (by omega))
    have K1 : Hid (OwnI _ w9.heap.size 3 w9 v_ (j1 ++ [21])) := Lib.hid (by unfold OwnI; simpa [ints] using o_)
    have l_k1 : (j1 ++ [21]).length = j1.length + 1 := by simp
    generalize j1 ++ [21] = k1 at K1 l_k1
    obtain ⟨a_K1, c_K1, rfl, _⟩ := Own.open K1.out
    have la_k1 := Nat.le_of_eq l_k1
    have lb_k1 := Nat.le_of_eq l_k1.symm
    clear l_k1
    clear hown o_ h_
    clear J1
    go_wp2_with fail
    refine (l2Join_any _ _ _ _ _ _ fs ss 19 _ OF.out.sl OS.out.sl (by omega) (by omega) (by first | omega | (simp; omega))).mono ?_
    rintro e w10 ⟨v_J2, rfl, h_, o_⟩
    have hs10 := h_.size
    replace OE := Lib.hid (OE.out.below h_ (by omega)); replace OF := Lib.hid (OF.out.below h_ (by omega)); replace OG := Lib.hid (OG.out.below h_ (by omega)); replace OS := Lib.hid (OS.out.below h_ (by omega)); replace K1 := Lib.hid (K1.out.below h_ (by omega)); replace HO := Lib.hid (HO.out.below h_ (by omega)); replace HR := Lib.hid (HR.out.below h_ (by omega))
    clear h_
    have l_j2 : (fs ++ ss ++ [19]).length = fs.length + ss.length + 1 := by simp; try omega
    generalize fs ++ ss ++ [19] = j2 at o_ l_j2
    have la_j2 := Nat.le_of_eq l_j2
    have lb_j2 := Nat.le_of_eq l_j2.symm
    clear l_j2
    have J2 := Lib.hid o_
    obtain ⟨a_J2, c_J2, rfl, _⟩ := Own.open o_
    clear o_
    have hown := J2.out
    go_wp2_with (at_builtin; refine wpList_app_lit w10 rfl _ _ 24 rfl 3 (.int .i64 0) 1 8 Tryz.underlying24 info_int rfl (by decide) (by decide) rfl hown 1 (ints [21]) rfl rfl (ints_one _) rfl (by omega) (by omega) ?_)
    intro v_ w11 o_ h_ _
    have hs11 := h_.size
    replace OE := Lib.hid (OE.out.outside h_ (by omega)); replace OF := Lib.hid (OF.out.outside h_ (by omega)); replace OG := Lib.hid (OG.out.outside h_ (by omega)); replace OS := Lib.hid (OS.out.outside h_ (by omega)); replace K1 := Lib.hid (K1.out.outside h_ (by omega))
    replace HO := Lib.hid (HO.out.fresh h_ (by omega))
    replace HR := Lib.hid (HR.out.outside h_ (by omega))
    have K2 : Hid (OwnI _ w11.heap.size 3 w11 v_ (j2 ++ [21])) := Lib.hid (by unfold OwnI; simpa [ints] using o_)
    have l_k2 : (j2 ++ [21]).length = j2.length + 1 := by simp
    generalize j2 ++ [21] = k2 at K2 l_k2
    obtain ⟨a_K2, c_K2, rfl, _⟩ := Own.open K2.out
    have la_k2 := Nat.le_of_eq l_k2
    have lb_k2 := Nat.le_of_eq l_k2.symm
    clear l_k2
    clear hown o_ h_
    clear J2
    go_wp2_with fail
    refine (l2Join_any _ _ _ _ _ _ ss k2 19 _ OS.out.sl K2.out.sl (by omega) (by omega) (by first | omega | (simp; omega))).mono ?_
    rintro e w12 ⟨v_J3, rfl, h_, o_⟩
    have hs12 := h_.size
    replace OE := Lib.hid (OE.out.below h_ (by omega)); replace OF := Lib.hid (OF.out.below h_ (by omega)); replace OG := Lib.hid (OG.out.below h_ (by omega)); replace OS := Lib.hid (OS.out.below h_ (by omega)); replace K1 := Lib.hid (K1.out.below h_ (by omega)); replace K2 := Lib.hid (K2.out.below h_ (by omega)); replace HO := Lib.hid (HO.out.below h_ (by omega)); replace HR := Lib.hid (HR.out.below h_ (by omega))
    clear h_
    have l_j3 : (ss ++ k2 ++ [19]).length = ss.length + k2.length + 1 := by simp; try omega
    generalize ss ++ k2 ++ [19] = j3 at o_ l_j3
    have la_j3 := Nat.le_of_eq l_j3
    have lb_j3 := Nat.le_of_eq l_j3.symm
    clear l_j3
    have J3 := Lib.hid o_
    obtain ⟨a_J3, c_J3, rfl, _⟩ := Own.open o_
    clear o_
    go_wp2
    go_ret2
    exact ⟨_, _, rfl, k1, j3, (K1.out.sl).wide (by omega) (by omega), (J3.out.sl).wide (by omega) (by omega), by omega, by omega, HO.out, HR.out.mono (by omega)⟩
  · skip
    go_wp2_with fail
    refine (l2Join_any _ _ _ _ _ _ es fs 19 _ OE.out.sl OF.out.sl (by omega) (by omega) (by first | omega | (simp; omega))).mono ?_
    rintro e w8 ⟨v_J1, rfl, h_, o_⟩
    have hs8 := h_.size
    replace OE := Lib.hid (OE.out.below h_ (by omega)); replace OF := Lib.hid (OF.out.below h_ (by omega)); replace OG := Lib.hid (OG.out.below h_ (by omega)); replace OS := Lib.hid (OS.out.below h_ (by omega)); replace HO := Lib.hid (HO.out.below h_ (by omega)); replace HR := Lib.hid (HR.out.below h_ (by omega))
    clear h_
    have l_j1 : (es ++ fs ++ [19]).length = es.length + fs.length + 1 := by simp; try omega
    generalize es ++ fs ++ [19] = j1 at o_ l_j1
    have la_j1 := Nat.le_of_eq l_j1
    have lb_j1 := Nat.le_of_eq l_j1.symm
    clear l_j1
    have J1 := Lib.hid o_
    obtain ⟨a_J1, c_J1, rfl, _⟩ := Own.open o_
    clear o_
    have hown := J1.out
    go_wp2_with (at_builtin; refine wpList_app_lit w8 rfl _ _ 24 rfl 3 (.int .i64 0) 1 8 Tryz.underlying24 info_int rfl (by decide) (by decide) rfl hown 1 (ints [21]) rfl rfl (ints_one _) rfl (by omega) (by omega) ?_)
    intro v_ w9 o_ h_ _
    have hs9 := h_.size
    replace OE := Lib.hid (OE.out.outside h_ (by omega)); replace OF := Lib.hid (OF.out.outside h_ (by omega)); replace OG := Lib.hid (OG.out.outside h_ (by omega)); replace OS := Lib.hid (OS.out.outside h_ (by omega))
    replace HO := Lib.hid (HO.out.fresh h_ (by omega))
    replace HR := Lib.hid (HR.out.outside h_ (by omega))
    have K1 : Hid (OwnI _ w9.heap.size 3 w9 v_ (j1 ++ [21])) := Lib.hid (by unfold OwnI; simpa [ints] using o_)
    have l_k1 : (j1 ++ [21]).length = j1.length + 1 := by simp
    generalize j1 ++ [21] = k1 at K1 l_k1
    obtain ⟨a_K1, c_K1, rfl, _⟩ := Own.open K1.out
    have la_k1 := Nat.le_of_eq l_k1
    have lb_k1 := Nat.le_of_eq l_k1.symm
    clear l_k1
    clear hown o_ h_
    clear J1
    go_wp2_with fail
    refine (l2Join_any _ _ _ _ _ _ k1 es 19 _ K1.out.sl OE.out.sl (by omega) (by omega) (by first | omega | (simp; omega))).mono ?_
    rintro e w10 ⟨v_J2, rfl, h_, o_⟩
    have hs10 := h_.size
    replace OE := Lib.hid (OE.out.below h_ (by omega)); replace OF := Lib.hid (OF.out.below h_ (by omega)); replace OG := Lib.hid (OG.out.below h_ (by omega)); replace OS := Lib.hid (OS.out.below h_ (by omega)); replace K1 := Lib.hid (K1.out.below h_ (by omega)); replace HO := Lib.hid (HO.out.below h_ (by omega)); replace HR := Lib.hid (HR.out.below h_ (by omega))
    clear h_
    have l_j2 : (k1 ++ es ++ [19]).length = k1.length + es.length + 1 := by simp; try omega
    generalize k1 ++ es ++ [19] = j2 at o_ l_j2
    have la_j2 := Nat.le_of_eq l_j2
    have lb_j2 := Nat.le_of_eq l_j2.symm
    clear l_j2
    have J2 := Lib.hid o_
    obtain ⟨a_J2, c_J2, rfl, _⟩ := Own.open o_
    clear o_
    go_wp2_with fail
    refine (l2Join_any _ _ _ _ _ _ fs es 19 _ OF.out.sl OE.out.sl (by omega) (by omega) (by first | omega | (simp; omega))).mono ?_
    rintro e w11 ⟨v_J3, rfl, h_, o_⟩
    have hs11 := h_.size
    replace OE := Lib.hid (OE.out.below h_ (by omega)); replace OF := Lib.hid (OF.out.below h_ (by omega)); replace OG := Lib.hid (OG.out.below h_ (by omega)); replace OS := Lib.hid (OS.out.below h_ (by omega)); replace K1 := Lib.hid (K1.out.below h_ (by omega)); replace J2 := Lib.hid (J2.out.below h_ (by omega)); replace HO := Lib.hid (HO.out.below h_ (by omega)); replace HR := Lib.hid (HR.out.below h_ (by omega))
    clear h_
    have l_j3 : (fs ++ es ++ [19]).length = fs.length + es.length + 1 := by simp; try omega
    generalize fs ++ es ++ [19] = j3 at o_ l_j3
    have la_j3 := Nat.le_of_eq l_j3
    have lb_j3 := Nat.le_of_eq l_j3.symm
    clear l_j3
    have J3 := Lib.hid o_
    obtain ⟨a_J3, c_J3, rfl, _⟩ := Own.open o_
    clear o_
    have hown := J3.out
    go_wp2_with (at_builtin; refine wpList_app_lit w11 rfl _ _ 24 rfl 3 (.int .i64 0) 1 8 Tryz.underlying24 info_int rfl (by decide) (by decide) rfl hown 1 (ints [21]) rfl rfl (ints_one _) rfl (by omega) (by omega) ?_)
    intro v_ w12 o_ h_ _
    have hs12 := h_.size
    replace OE := Lib.hid (OE.out.outside h_ (by omega)); replace OF := Lib.hid (OF.out.outside h_ (by omega)); replace OG := Lib.hid (OG.out.outside h_ (by omega)); replace OS := Lib.hid (OS.out.outside h_ (by omega)); replace K1 := Lib.hid (K1.out.outside h_ (by omega)); replace J2 := Lib.hid (J2.out.outside h_ (by omega))
    replace HO := Lib.hid (HO.out.fresh h_ (by omega))
    replace HR := Lib.hid (HR.out.outside h_ (by omega))
    have K3 : Hid (OwnI _ w12.heap.size 3 w12 v_ (j3 ++ [21])) := Lib.hid (by unfold OwnI; simpa [ints] using o_)
    have l_k3 : (j3 ++ [21]).length = j3.length + 1 := by simp
    generalize j3 ++ [21] = k3 at K3 l_k3
    obtain ⟨a_K3, c_K3, rfl, _⟩ := Own.open K3.out
    have la_k3 := Nat.le_of_eq l_k3
    have lb_k3 := Nat.le_of_eq l_k3.symm
    clear l_k3
    clear hown o_ h_
    clear J3
    go_wp2_with fail
    refine (l2Join_any _ _ _ _ _ _ es k3 19 _ OE.out.sl K3.out.sl (by omega) (by omega) (by first | omega | (simp; omega))).mono ?_
    rintro e w13 ⟨v_J4, rfl, h_, o_⟩
    have hs13 := h_.size
    replace OE := Lib.hid (OE.out.below h_ (by omega)); replace OF := Lib.hid (OF.out.below h_ (by omega)); replace OG := Lib.hid (OG.out.below h_ (by omega)); replace OS := Lib.hid (OS.out.below h_ (by omega)); replace K1 := Lib.hid (K1.out.below h_ (by omega)); replace J2 := Lib.hid (J2.out.below h_ (by omega)); replace K3 := Lib.hid (K3.out.below h_ (by omega)); replace HO := Lib.hid (HO.out.below h_ (by omega)); replace HR := Lib.hid (HR.out.below h_ (by omega))
    clear h_
    have l_j4 : (es ++ k3 ++ [19]).length = es.length + k3.length + 1 := by simp; try omega
    generalize es ++ k3 ++ [19] = j4 at o_ l_j4
    have la_j4 := Nat.le_of_eq l_j4
    have lb_j4 := Nat.le_of_eq l_j4.symm
    clear l_j4
    have J4 := Lib.hid o_
    obtain ⟨a_J4, c_J4, rfl, _⟩ := Own.open o_
    clear o_
    go_wp2
    go_ret2
    exact ⟨_, _, rfl, j2, j4, (J2.out.sl).wide (by omega) (by omega), (J4.out.sl).wide (by omega) (by omega), by omega, by omega, HO.out, HR.out.mono (by omega)⟩
  · skip
    go_wp2_with fail
    refine (l2Join_any _ _ _ _ _ _ fs gs 20 _ OF.out.sl OG.out.sl (by omega) (by omega) (by first | omega | (simp; omega))).mono ?_
    rintro e w8 ⟨v_J1, rfl, h_, o_⟩
    have hs8 := h_.size
    replace OE := Lib.hid (OE.out.below h_ (by omega)); replace OF := Lib.hid (OF.out.below h_ (by omega)); replace OG := Lib.hid (OG.out.below h_ (by omega)); replace OS := Lib.hid (OS.out.below h_ (by omega)); replace HO := Lib.hid (HO.out.below h_ (by omega)); replace HR := Lib.hid (HR.out.below h_ (by omega))
    clear h_
    have l_j1 : (fs ++ gs ++ [20]).length = fs.length + gs.length + 1 := by simp; try omega
    generalize fs ++ gs ++ [20] = j1 at o_ l_j1
    have la_j1 := Nat.le_of_eq l_j1
    have lb_j1 := Nat.le_of_eq l_j1.symm
    clear l_j1
    have J1 := Lib.hid o_
    obtain ⟨a_J1, c_J1, rfl, _⟩ := Own.open o_
    clear o_
    go_wp2_with fail
    refine (l2Join_any _ _ _ _ _ _ es j1 19 _ OE.out.sl J1.out.sl (by omega) (by omega) (by first | omega | (simp; omega))).mono ?_
    rintro e w9 ⟨v_J2, rfl, h_, o_⟩
    have hs9 := h_.size
    replace OE := Lib.hid (OE.out.below h_ (by omega)); replace OF := Lib.hid (OF.out.below h_ (by omega)); replace OG := Lib.hid (OG.out.below h_ (by omega)); replace OS := Lib.hid (OS.out.below h_ (by omega)); replace J1 := Lib.hid (J1.out.below h_ (by omega)); replace HO := Lib.hid (HO.out.below h_ (by omega)); replace HR := Lib.hid (HR.out.below h_ (by omega))
    clear h_
    have l_j2 : (es ++ j1 ++ [19]).length = es.length + j1.length + 1 := by simp; try omega
    generalize es ++ j1 ++ [19] = j2 at o_ l_j2
    have la_j2 := Nat.le_of_eq l_j2
    have lb_j2 := Nat.le_of_eq l_j2.symm
    clear l_j2
    have J2 := Lib.hid o_
    obtain ⟨a_J2, c_J2, rfl, _⟩ := Own.open o_
    clear o_
    go_wp2_with fail
    refine (l2Join_any _ _ _ _ _ _ es fs 19 _ OE.out.sl OF.out.sl (by omega) (by omega) (by first | omega | (simp; omega))).mono ?_
    rintro e w10 ⟨v_J3, rfl, h_, o_⟩
    have hs10 := h_.size
    replace OE := Lib.hid (OE.out.below h_ (by omega)); replace OF := Lib.hid (OF.out.below h_ (by omega)); replace OG := Lib.hid (OG.out.below h_ (by omega)); replace OS := Lib.hid (OS.out.below h_ (by omega)); replace J1 := Lib.hid (J1.out.below h_ (by omega)); replace J2 := Lib.hid (J2.out.below h_ (by omega)); replace HO := Lib.hid (HO.out.below h_ (by omega)); replace HR := Lib.hid (HR.out.below h_ (by omega))
    clear h_
    have l_j3 : (es ++ fs ++ [19]).length = es.length + fs.length + 1 := by simp; try omega
    generalize es ++ fs ++ [19] = j3 at o_ l_j3
    have la_j3 := Nat.le_of_eq l_j3
    have lb_j3 := Nat.le_of_eq l_j3.symm
    clear l_j3
    have J3 := Lib.hid o_
    obtain ⟨a_J3, c_J3, rfl, _⟩ := Own.open o_
    clear o_
    go_wp2_with fail
    refine (l2Join_any _ _ _ _ _ _ es gs 19 _ OE.out.sl OG.out.sl (by omega) (by omega) (by first | omega | (simp; omega))).mono ?_
    rintro e w11 ⟨v_J4, rfl, h_, o_⟩
    have hs11 := h_.size
    replace OE := Lib.hid (OE.out.below h_ (by omega)); replace OF := Lib.hid (OF.out.below h_ (by omega)); replace OG := Lib.hid (OG.out.below h_ (by omega)); replace OS := Lib.hid (OS.out.below h_ (by omega)); replace J1 := Lib.hid (J1.out.below h_ (by omega)); replace J2 := Lib.hid (J2.out.below h_ (by omega)); replace J3 := Lib.hid (J3.out.below h_ (by omega)); replace HO := Lib.hid (HO.out.below h_ (by omega)); replace HR := Lib.hid (HR.out.below h_ (by omega))
    clear h_
    have l_j4 : (es ++ gs ++ [19]).length = es.length + gs.length + 1 := by simp; try omega
    generalize es ++ gs ++ [19] = j4 at o_ l_j4
    have la_j4 := Nat.le_of_eq l_j4
    have lb_j4 := Nat.le_of_eq l_j4.symm
    clear l_j4
    have J4 := Lib.hid o_
    obtain ⟨a_J4, c_J4, rfl, _⟩ := Own.open o_
    clear o_
    go_wp2_with fail
    refine (l2Join_any _ _ _ _ _ _ j3 j4 20 _ J3.out.sl J4.out.sl (by omega) (by omega) (by first | omega | (simp; omega))).mono ?_
    rintro e w12 ⟨v_J5, rfl, h_, o_⟩
    have hs12 := h_.size
    replace OE := Lib.hid (OE.out.below h_ (by omega)); replace OF := Lib.hid (OF.out.below h_ (by omega)); replace OG := Lib.hid (OG.out.below h_ (by omega)); replace OS := Lib.hid (OS.out.below h_ (by omega)); replace J1 := Lib.hid (J1.out.below h_ (by omega)); replace J2 := Lib.hid (J2.out.below h_ (by omega)); replace J3 := Lib.hid (J3.out.below h_ (by omega)); replace J4 := Lib.hid (J4.out.below h_ (by omega)); replace HO := Lib.hid (HO.out.below h_ (by omega)); replace HR := Lib.hid (HR.out.below h_ (by omega))
    clear h_
    have l_j5 : (j3 ++ j4 ++ [20]).length = j3.length + j4.length + 1 := by simp; try omega
    generalize j3 ++ j4 ++ [20] = j5 at o_ l_j5
    have la_j5 := Nat.le_of_eq l_j5
    have lb_j5 := Nat.le_of_eq l_j5.symm
    clear l_j5
    have J5 := Lib.hid o_
    obtain ⟨a_J5, c_J5, rfl, _⟩ := Own.open o_
    clear o_
    go_wp2
    go_ret2
    exact ⟨_, _, rfl, j2, j5, (J2.out.sl).wide (by omega) (by omega), (J5.out.sl).wide (by omega) (by omega), by omega, by omega, HO.out, HR.out.mono (by omega)⟩
  · skip
    go_wp2_with fail
    refine (l2Join_any _ _ _ _ _ _ es es 20 _ OE.out.sl OE.out.sl (by omega) (by omega) (by first | omega | (simp; omega))).mono ?_
    rintro e w8 ⟨v_J1, rfl, h_, o_⟩
    have hs8 := h_.size
    replace OE := Lib.hid (OE.out.below h_ (by omega)); replace OF := Lib.hid (OF.out.below h_ (by omega)); replace OG := Lib.hid (OG.out.below h_ (by omega)); replace OS := Lib.hid (OS.out.below h_ (by omega)); replace HO := Lib.hid (HO.out.below h_ (by omega)); replace HR := Lib.hid (HR.out.below h_ (by omega))
    clear h_
    have l_j1 : (es ++ es ++ [20]).length = es.length + es.length + 1 := by simp; try omega
    generalize es ++ es ++ [20] = j1 at o_ l_j1
    have la_j1 := Nat.le_of_eq l_j1
    have lb_j1 := Nat.le_of_eq l_j1.symm
    clear l_j1
    have J1 := Lib.hid o_
    obtain ⟨a_J1, c_J1, rfl, _⟩ := Own.open o_
    clear o_
    go_wp2
    go_ret2
    exact ⟨_, _, rfl, es, j1, (OE.out.sl).wide (by omega) (by omega), (J1.out.sl).wide (by omega) (by omega), by omega, by omega, HO.out, HR.out.mono (by omega)⟩
  · skip
    have hown := OS.out
    go_wp2_with (at_builtin; refine wpList_app_keep w7 rfl _ _ rfl rfl hown (by omega) 21 rfl rfl (by omega) (by omega) ?_)
    intro v_ w8 o1_ o2_ h_
    have hs8 := h_.size
    replace HO := Lib.hid (HO.out.fresh h_ (by omega))
    replace HR := Lib.hid (HR.out.outside h_ (by omega))
    have O1 := Lib.hid o1_
    have O2 := Lib.hid o2_
    obtain ⟨a_O1, c_O1, rfl, _, _⟩ := Sl.shape o1_
    have lo1 : (ss ++ [21]).length ≤ ss.length + 1 := by simp
    generalize ss ++ [21] = s2 at *
    clear o1_ o2_ h_ hown
    go_wp2
    go_ret2
    exact ⟨_, _, rfl, s2, ss, (O1.out).wide (by omega) (by omega), (O2.out).wide (by omega) (by omega), by omega, by omega, HO.out, HR.out.mono (by omega)⟩
  · skip
    go_wp2_with fail
    refine (l20Test_any g _ 0 _ HR.out (by omega) (by omega)).mono ?_
    rintro e w8 ⟨t, rfl, ⟨i0_t, i1_t, i2_t⟩, h_, r_⟩
    have hs8 := h_.size
    replace OE := Lib.hid (OE.out.outside h_ (.inr (by omega))); replace OF := Lib.hid (OF.out.outside h_ (.inr (by omega))); replace OG := Lib.hid (OG.out.outside h_ (.inr (by omega))); replace OS := Lib.hid (OS.out.outside h_ (.inr (by omega)))
    replace HO := Lib.hid (HO.out.trans h_)
    replace HR := Lib.hid r_
    clear h_ r_
    obtain ⟨t1, t2⟩ := i0_t (by omega)
    go_wp2_with fail
    refine (spec_KatWhile _ _ _ es t _ OE.out.sl (by omega) (by omega)).mono ?_
    rintro e w9 ⟨vk, okk, rfl, h_, ks, ok_, lk_, lk2_⟩
    have hs9 := h_.size
    replace OE := Lib.hid (OE.out.below h_ (by omega)); replace OF := Lib.hid (OF.out.below h_ (by omega)); replace OG := Lib.hid (OG.out.below h_ (by omega)); replace OS := Lib.hid (OS.out.below h_ (by omega)); replace HO := Lib.hid (HO.out.below h_ (by omega)); replace HR := Lib.hid (HR.out.below h_ (by omega))
    have OK := Lib.hid (ok_)
    have hk2 := lk2_ t1 t2 HK.out (by omega)
    obtain ⟨ak_, ck_, rfl, _⟩ := Own.open ok_
    clear ok_ lk2_
    clear h_
    obtain ⟨bk, ok2, rfl, _, _, _, hgk⟩ := OK.out.sl.get (ks.length - 2) (by omega)
    have hidx : ((ks.length : Int) - 2) = ((ks.length - 2 : Nat) : Int) := by omega
    have hidx2 : ks.length - 2 < ks.length := by omega
    obtain ⟨kx, hkx⟩ : ∃ kx, kx = ks.length - 2 := ⟨_, rfl⟩
    obtain ⟨ky, hky⟩ : ∃ ky, ky = ks[ks.length - 2] := ⟨_, rfl⟩
    rw [← hky] at hgk
    rw [← hkx] at hgk hidx hidx2
    clear hkx hky
    go_wp2_with fail
    obtain ⟨w10, hw_⟩ : ∃ w_, w_ = w9.alloc (.cells #[.int .i64 ky] 3) := ⟨_, rfl⟩
    obtain ⟨h_, K_, hs10⟩ := box_facts2 hw_
    have HL_ := Lib.hid hw_
    simp only [← hw_]
    clear hw_
    replace OE := Lib.hid (OE.out.below h_ (by omega)); replace OF := Lib.hid (OF.out.below h_ (by omega)); replace OG := Lib.hid (OG.out.below h_ (by omega)); replace OS := Lib.hid (OS.out.below h_ (by omega)); replace OK := Lib.hid (OK.out.below h_ (by omega)); replace HO := Lib.hid (HO.out.below h_ (by omega)); replace HR := Lib.hid (HR.out.below h_ (by omega))
    clear h_
    have OL : Hid (OwnI w9.heap.size w10.heap.size 3 w10 (.slice (some ⟨w9.heap.size, 0, none⟩) 1 1) [ky]) := Lib.hid (by rw [HL_.out]; exact one_own _ _)
    clear HL_ K_
    skip
    refine (l2Join_any _ _ _ _ _ _ ks [ky] 19 _ OK.out.sl OL.out.sl (by omega) (by omega) (by first | omega | (simp; omega))).mono ?_
    rintro e w11 ⟨v_J1, rfl, h_, o_⟩
    have hs11 := h_.size
    replace OE := Lib.hid (OE.out.below h_ (by omega)); replace OF := Lib.hid (OF.out.below h_ (by omega)); replace OG := Lib.hid (OG.out.below h_ (by omega)); replace OS := Lib.hid (OS.out.below h_ (by omega)); replace OK := Lib.hid (OK.out.below h_ (by omega)); replace OL := Lib.hid (OL.out.below h_ (by omega)); replace HO := Lib.hid (HO.out.below h_ (by omega)); replace HR := Lib.hid (HR.out.below h_ (by omega))
    clear h_
    have l_j1 : (ks ++ [ky] ++ [19]).length = ks.length + 1 + 1 := by simp; try omega
    generalize ks ++ [ky] ++ [19] = j1 at o_ l_j1
    have la_j1 := Nat.le_of_eq l_j1
    have lb_j1 := Nat.le_of_eq l_j1.symm
    clear l_j1
    have J1 := Lib.hid o_
    obtain ⟨a_J1, c_J1, rfl, _⟩ := Own.open o_
    clear o_
    go_wp2
    go_ret2
    exact ⟨_, _, rfl, ks, j1, (OK.out.sl).wide (by omega) (by omega), (J1.out.sl).wide (by omega) (by omega), by omega, by omega, HO.out, HR.out.mono (by omega)⟩
  · skip
    go_wp2_with fail
    refine (l2Join_any _ _ _ _ _ _ es fs 19 _ OE.out.sl OF.out.sl (by omega) (by omega) (by first | omega | (simp; omega))).mono ?_
    rintro e w8 ⟨v_J1, rfl, h_, o_⟩
    have hs8 := h_.size
    replace OE := Lib.hid (OE.out.below h_ (by omega)); replace OF := Lib.hid (OF.out.below h_ (by omega)); replace OG := Lib.hid (OG.out.below h_ (by omega)); replace OS := Lib.hid (OS.out.below h_ (by omega)); replace HO := Lib.hid (HO.out.below h_ (by omega)); replace HR := Lib.hid (HR.out.below h_ (by omega))
    clear h_
    have l_j1 : (es ++ fs ++ [19]).length = es.length + fs.length + 1 := by simp; try omega
    generalize es ++ fs ++ [19] = j1 at o_ l_j1
    have la_j1 := Nat.le_of_eq l_j1
    have lb_j1 := Nat.le_of_eq l_j1.symm
    clear l_j1
    have J1 := Lib.hid o_
    obtain ⟨a_J1, c_J1, rfl, _⟩ := Own.open o_
    clear o_
    go_wp2_with fail
    refine (l2Join_any _ _ _ _ _ _ fs es 19 _ OF.out.sl OE.out.sl (by omega) (by omega) (by first | omega | (simp; omega))).mono ?_
    rintro e w9 ⟨v_J2, rfl, h_, o_⟩
    have hs9 := h_.size
    replace OE := Lib.hid (OE.out.below h_ (by omega)); replace OF := Lib.hid (OF.out.below h_ (by omega)); replace OG := Lib.hid (OG.out.below h_ (by omega)); replace OS := Lib.hid (OS.out.below h_ (by omega)); replace J1 := Lib.hid (J1.out.below h_ (by omega)); replace HO := Lib.hid (HO.out.below h_ (by omega)); replace HR := Lib.hid (HR.out.below h_ (by omega))
    clear h_
    have l_j2 : (fs ++ es ++ [19]).length = fs.length + es.length + 1 := by simp; try omega
    generalize fs ++ es ++ [19] = j2 at o_ l_j2
    have la_j2 := Nat.le_of_eq l_j2
    have lb_j2 := Nat.le_of_eq l_j2.symm
    clear l_j2
    have J2 := Lib.hid o_
    obtain ⟨a_J2, c_J2, rfl, _⟩ := Own.open o_
    clear o_
    go_wp2
    go_ret2
    exact ⟨_, _, rfl, j1, j2, (J1.out.sl).wide (by omega) (by omega), (J2.out.sl).wide (by omega) (by omega), by omega, by omega, HO.out, HR.out.mono (by omega)⟩
  · skip
    go_wp2_with fail
    refine (l20Small_any g _ 14 _ HR.out (by omega) (by omega)).mono ?_
    rintro e w8 ⟨v_OM, rfl, ms, o_, l_ms, h_, r_⟩
    have hs8 := h_.size
    replace OE := Lib.hid (OE.out.outside h_ (.inr (by omega))); replace OF := Lib.hid (OF.out.outside h_ (.inr (by omega))); replace OG := Lib.hid (OG.out.outside h_ (.inr (by omega))); replace OS := Lib.hid (OS.out.outside h_ (.inr (by omega)))
    replace HO := Lib.hid (HO.out.trans h_)
    replace HR := Lib.hid r_
    clear h_ r_
    have OM := Lib.hid o_
    clear o_
    obtain ⟨a_OM, c_OM, rfl, _, _⟩ := Sl.shape OM.out.sl
    go_wp2
    go_ret2
    exact ⟨_, _, rfl, es, ms, (OE.out.sl).wide (by omega) (by omega), (OM.out.sl).wide (by omega) (by omega), by omega, by omega, HO.out, HR.out.mono (by omega)⟩
end Go.Proofs.YtagjpecibpejmaaGreatDoor
