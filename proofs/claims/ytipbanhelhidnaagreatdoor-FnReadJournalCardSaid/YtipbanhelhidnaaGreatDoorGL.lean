/-
  Texts of walks and plain lemmas for this seat; no condition.
-/
import Derived.Test.YtipbanhelhidnaaGreatDoorGB
import Derived.Test.YtipbanhelhidnaaGreatDoorDKat
import Derived.Test.YtipbanhelhidnaaGreatDoorGA
import Derived.Test.YtipbanhelhidnaaGreatDoorGC
import Derived.Test.YtipbanhelhidnaaGreatDoorGD
namespace Go.Proofs.YtipbanhelhidnaaGreatDoor
open Go.RowKit
section

theorem nil_own (w : World) : OwnI w.heap.size (w.alloc (.cells #[] 3)).heap.size 3 (w.alloc (.cells #[] 3)) (.slice (some ⟨w.heap.size, 0, none⟩) 0 0) [] := by
  have h := Own.lit 1 3 w (ints []) 0 (by omega) rfl
  rw [alloc_size]
  exact h
/-- A list that a draw has made, and a truth. -/
abbrev MadeI (w : World) : Ending → World → Prop := RetVB fun v _ w' => Below w.heap.size w w' ∧ ∃ zs : List Int, OwnI w.heap.size w'.heap.size 3 w' v zs ∧ zs.length ≤ 40
theorem katV_len {e : List Int} (h : katV e = true) : e.length ≤ 40 := by
  simp only [katV, Bool.and_eq_true, decide_eq_true_eq] at h
  exact h.1.2
theorem RetVB.mk {P : Value → Bool → World → Prop} {e : Ending} {w' : World} (v : Value) (b : Bool) (h : e = .returned (.tuple #[v, .bool b])) (hp : P v b w') : RetVB P e w' := ⟨v, b, h, hp⟩

set_option maxRecDepth 100000 in
set_option maxHeartbeats 3200000 in
theorem spec_KatThen (lo hi lo' hi' : Nat) (va vb : Value) (xs ys : List Int) (w : World) (hx : SlI lo hi w va xs) (hy : SlI lo' hi' w vb ys) (hh : hi ≤ w.heap.size) (hh' : hi' ≤ w.heap.size) (hm : xs.length + ys.length ≤ 1048575) :
    Calls Tryz.prog 183 #[va, vb] w (MadeI w) := by
  have HX := Lib.hid hx
  have HY := Lib.hid hy
  obtain ⟨xa, xc, rfl, _, _⟩ := Sl.shape hx
  obtain ⟨ya, yc, rfl, _, _⟩ := Sl.shape hy
  clear hx hy
  go_enter Tryz.func183, Tryz.ntmps183
  go_wp2_with fail
  refine (l2Join_any _ _ _ _ _ _ xs ys 19 w HX.out HY.out hh hh' (by omega)).mono ?_
  rintro e w1 ⟨v1, rfl, hb1, ho1⟩
  have hs1 := hb1.size
  replace HX := Lib.hid (HX.out.below hb1 hh)
  replace HY := Lib.hid (HY.out.below hb1 hh')
  have HO := Lib.hid ho1
  have HB := Lib.hid hb1
  have hzl : (xs ++ ys ++ [19]).length ≤ 1048576 := by simp; omega
  generalize xs ++ ys ++ [19] = zs at HO ho1 hzl
  obtain ⟨za, zc, rfl, _⟩ := Own.open ho1
  clear hb1 ho1
  go_wp2_with fail
  refine (spec_KatValid _ _ _ xs _ HX.out (by omega)).mono ?_
  rintro e _ ⟨rfl, rfl⟩
  cases katV xs
  · go_wp2
    go_ret2
    exact RetVB.mk _ _ rfl ⟨HB.out.trans (((Below.refl _ _).alloc (Nat.le_refl _) _).mono hs1), [], (nil_own _).lower hs1 (Nat.le_refl _), by simp⟩
  go_wp2_with fail
  refine (spec_KatValid _ _ _ ys _ HY.out (by omega)).mono ?_
  rintro e _ ⟨rfl, rfl⟩
  cases katV ys
  · go_wp2
    go_ret2
    exact RetVB.mk _ _ rfl ⟨HB.out.trans (((Below.refl _ _).alloc (Nat.le_refl _) _).mono hs1), [], (nil_own _).lower hs1 (Nat.le_refl _), by simp⟩
  go_wp2_with fail
  refine (spec_KatValid _ _ _ zs _ HO.out.sl hzl).mono ?_
  rintro e _ ⟨rfl, rfl⟩
  cases h3 : katV zs
  · go_wp2
    go_ret2
    exact RetVB.mk _ _ rfl ⟨HB.out.trans (((Below.refl _ _).alloc (Nat.le_refl _) _).mono hs1), [], (nil_own _).lower hs1 (Nat.le_refl _), by simp⟩
  · have HK := Lib.hid (katV_len h3)
    go_wp2
    go_ret2
    exact RetVB.mk _ _ rfl ⟨HB.out, zs, HO.out, HK.out⟩

set_option maxHeartbeats 800000 in
theorem spec_KatActs (lo hi : Nat) (v : Value) (xs : List Int) (w : World) (hx : SlI lo hi w v xs) (hm : xs.length ≤ 1048576) :
    Calls Tryz.prog 151 #[v] w (RetI fun _ w' => w = w') := by
  have HX := Lib.hid hx
  obtain ⟨a, cap, rfl, hcap, hcm, hc⟩ := hx.open
  clear hx hcm hcap
  cases hk : katV xs
  · go_enter Tryz.func151, Tryz.ntmps151
    go_wp2_with (go_at_call 28; refine (spec_KatValid _ _ _ xs _ HX.out hm).mono ?_; rintro e w' ⟨rfl, rfl⟩)
    go_ret
    exact ⟨_, rfl, rfl⟩
  · go_enter Tryz.func151, Tryz.ntmps151
    go_wp2_with (go_at_call 28; refine (spec_KatValid _ _ _ xs _ HX.out hm).mono ?_; rintro e w' ⟨rfl, rfl⟩)
    go_loop [3, 4] (fun n i => ∃ (k : Nat) (m : Int), k ≤ xs.length ∧ n = .int .i64 m ∧ i = .int .i64 k ∧ 0 ≤ m ∧ m ≤ k) (fun _ i => xs.length - (intOf i).toNat)
    case atStart => exact ⟨0, 0, by omega, rfl, rfl, by omega, by omega⟩
    case round =>
      obtain ⟨k, m, hk', rfl, rfl, hm0, hm1⟩ := hrel
      by_cases hlt : k < xs.length
      · obtain ⟨b, off, rfl, _, _, _, hcell⟩ := hc k hlt
        clear hc
        cases hb : inB xs[k] 16 18
        · go_wp2_with (go_at_call 55; refine (l1In_any _ _ _ _).mono ?_; rintro e w' ⟨rfl, rfl⟩)
          go_round
          case rel => exact ⟨k + 1, m, by omega, rfl, by go_num, by omega, by omega⟩
          case measure => simp [intOf]; omega
        · go_wp2_with (go_at_call 55; refine (l1In_any _ _ _ _).mono ?_; rintro e w' ⟨rfl, rfl⟩)
          go_round
          case rel => exact ⟨k + 1, m + 1, by omega, by go_num, by go_num, by omega, by omega⟩
          case measure => simp [intOf]; omega
      · obtain rfl : k = xs.length := by omega
        go_wp2
        go_ret
        exact ⟨_, rfl, rfl⟩
theorem specTestNot_any (t : Int) (w : World) (h : inB t 0 15 = true) : Calls Tryz.prog 153 #[.int .i64 t] w fun e w' => e = .returned (.int .i64 (15 - t)) ∧ w = w' := by
  have h2 : 0 ≤ t ∧ t ≤ 15 := by simpa [inB] using h
  obtain ⟨h3, h4⟩ := h2
  go_enter Tryz.func153, Tryz.ntmps153
  go_wp2_with (go_at_call 152; refine (specTestValid_any _ _).mono ?_; rintro e w' ⟨rfl, rfl⟩)
  go_ret
  exact ⟨rfl, rfl⟩
theorem kat_while {e : List Int} (h : katV e = true) (hl : e.length ≤ 9) {t : Int} (ht : 0 ≤ t ∧ t ≤ 15) : katV ([t] ++ e ++ [19] ++ [21] ++ [15 - t] ++ [19]) = true := by
  obtain ⟨T, h1, rfl, _, _⟩ := katV_tree h
  have hk : (KT.bin false (.star (.bin false (.leaf t) T)) (.leaf (15 - t))).ok 0 = true := by simp [KT.ok, h1]; omega
  have hs : (KT.bin false (.star (.bin false (.leaf t) T)) (.leaf (15 - t))).size ≤ 40 := by
    rw [KT.post_length] at hl
    simp [KT.size]
    omega
  have h2 := katV_post hk hs
  simpa [KT.post, KT.op] using h2

set_option maxRecDepth 100000 in
set_option maxHeartbeats 1600000 in
theorem spec_KatWhile (lo hi : Nat) (va : Value) (xs : List Int) (t : Int) (w : World) (hx : SlI lo hi w va xs) (hh : hi ≤ w.heap.size) (hm : xs.length ≤ 1000000) :
    Calls Tryz.prog 122 #[.int .i64 t, va] w (RetVB fun v _ w' => Below w.heap.size w w' ∧ ∃ zs : List Int, OwnI w.heap.size w'.heap.size 3 w' v zs ∧ zs.length ≤ 40 ∧ (0 ≤ t → t ≤ 15 → katV xs = true → xs.length ≤ 9 → 2 ≤ zs.length)) := by
  have HX := Lib.hid hx
  obtain ⟨xa, xc, rfl, _, _⟩ := Sl.shape hx
  clear hx
  cases h1 : inB t 0 15
  · have HN := Lib.hid (show ¬ (0 ≤ t ∧ t ≤ 15) by simp [inB] at h1; omega)
    go_enter Tryz.func122, Tryz.ntmps122
    go_wp2_with (go_at_call 152; refine (specTestValid_any _ _).mono ?_; rintro e w' ⟨rfl, rfl⟩)
    go_ret2
    exact RetVB.mk _ _ rfl ⟨(Below.refl _ _).alloc (Nat.le_refl _) _, [], nil_own _, by simp, fun h2 h3 => absurd ⟨h2, h3⟩ HN.out⟩
  · have HT := Lib.hid h1
    cases h2 : katV xs
    · go_enter Tryz.func122, Tryz.ntmps122
      go_wp2_with (first | (go_at_call 152; refine (specTestValid_any _ _).mono ?_; rintro e w' ⟨rfl, rfl⟩) | (go_at_call 28; refine (spec_KatValid _ _ _ xs _ HX.out (by omega)).mono ?_; rintro e w' ⟨rfl, rfl⟩))
      go_ret2
      exact RetVB.mk _ _ rfl ⟨(Below.refl _ _).alloc (Nat.le_refl _) _, [], nil_own _, by simp, fun _ _ h => by cases h⟩
    · have HK := Lib.hid h2
      go_enter Tryz.func122, Tryz.ntmps122
      go_wp2_with (first | (go_at_call 152; refine (specTestValid_any _ _).mono ?_; rintro e w' ⟨rfl, rfl⟩) | (go_at_call 28; refine (spec_KatValid _ _ _ xs _ HX.out (by omega)).mono ?_; rintro e w' ⟨rfl, rfl⟩))
      obtain ⟨w1, hw1⟩ : ∃ w1, w1 = w.alloc (.cells #[.int .i64 t] 3) := ⟨_, rfl⟩
      have hb1 : Below w.heap.size w w1 := by rw [hw1]; exact (Below.refl _ _).alloc (Nat.le_refl _) _
      have OT : Hid (OwnI w.heap.size w1.heap.size 3 w1 (.slice (some ⟨w.heap.size, 0, none⟩) 1 1) [t]) := Lib.hid (by rw [hw1]; exact one_own _ _)
      simp only [← hw1]
      have hs1 : w.heap.size + 1 ≤ w1.heap.size := by rw [hw1]; simp
      replace HX := Lib.hid (HX.out.below hb1 hh)
      have HB := Lib.hid hb1
      clear hw1 hb1 h1 h2
      refine (l2Join_any _ _ _ _ _ _ [t] xs 19 w1 OT.out.sl HX.out (by omega) (by omega) (by simp; omega)).mono ?_
      rintro e w2 ⟨v2, rfl, hb2, ho2⟩
      have hs2 := hb2.size
      replace HB := Lib.hid (HB.out.trans (hb2.mono (by omega)))
      have hl2 : ([t] ++ xs ++ [19]).length = xs.length + 2 := by simp
      obtain ⟨js, hjs⟩ : ∃ js, js = [t] ++ xs ++ [19] := ⟨_, rfl⟩
      rw [← hjs] at ho2 hl2
      have hl2a := Nat.le_of_eq hl2
      have hl2b := Nat.le_of_eq hl2.symm
      clear hl2
      have HJ := Lib.hid hjs
      have O2 := Lib.hid ho2
      obtain ⟨a2, c2, rfl, _⟩ := Own.open ho2
      clear hb2 ho2 hjs
      have hown := O2.out
      go_wp2_with (at_builtin; refine wpList_app_lit w2 rfl _ _ 28 rfl 3 (.int .i64 0) 1 8 Tryz.underlying28 info_int rfl (by decide) (by decide) rfl hown 1 (ints [21]) rfl rfl (ints_one _) rfl (by omega) (by omega) ?_)
      intro v3 w3 ho3 hout3 _
      have hs3 := hout3.size
      obtain ⟨ks, hks⟩ : ∃ ks, ks = js ++ [21] := ⟨_, rfl⟩
      have hl3a : ks.length ≤ js.length + 1 := by rw [hks]; simp
      have hl3b : js.length + 1 ≤ ks.length := by rw [hks]; simp
      have O3 : Hid (OwnI w1.heap.size w3.heap.size 3 w3 v3 ks) := Lib.hid (by rw [hks]; unfold OwnI; simpa [ints] using ho3)
      have HKS := Lib.hid hks
      obtain ⟨a3, c3, rfl, _⟩ := Own.open O3.out
      clear hks
      replace HB := Lib.hid (Below.outside HB.out hout3 (by omega) (by omega))
      clear hown ho3 hout3 O2
      have hin : inB t 0 15 = true := HT.out
      go_wp2_with (go_at_call 153; refine (specTestNot_any t _ hin).mono ?_; rintro e w' ⟨rfl, rfl⟩)
      obtain ⟨w4, hw4⟩ : ∃ w4, w4 = w3.alloc (.cells #[.int .i64 (15 - t)] 3) := ⟨_, rfl⟩
      have hb4 : Below w3.heap.size w3 w4 := by rw [hw4]; exact (Below.refl _ _).alloc (Nat.le_refl _) _
      have O4 : Hid (OwnI w3.heap.size w4.heap.size 3 w4 (.slice (some ⟨w3.heap.size, 0, none⟩) 1 1) [15 - t]) := Lib.hid (by rw [hw4]; exact one_own _ _)
      simp only [← hw4]
      have hs4 : w3.heap.size + 1 ≤ w4.heap.size := by rw [hw4]; simp
      replace O3 := Lib.hid (O3.out.below hb4 (Nat.le_refl _))
      replace HB := Lib.hid (HB.out.trans (hb4.mono (by omega)))
      clear hw4 hb4 hin
      refine (l2Join_any _ _ _ _ _ _ ks [15 - t] 19 w4 O3.out.sl O4.out.sl (by omega) (by omega) (by simp; omega)).mono ?_
      rintro e w5 ⟨v5, rfl, hb5, ho5⟩
      have hs5 := hb5.size
      replace HB := Lib.hid (HB.out.trans (hb5.mono (by omega)))
      have hl5 : (ks ++ [15 - t] ++ [19]).length = xs.length + 5 := by simp; omega
      have HW := Lib.hid (show 0 ≤ t → t ≤ 15 → xs.length ≤ 9 → katV (ks ++ [15 - t] ++ [19]) = true from fun h3 h4 h5 => by rw [HKS.out, HJ.out]; exact kat_while HK.out h5 ⟨h3, h4⟩)
      generalize ks ++ [15 - t] ++ [19] = zs at ho5 hl5 HW
      have hl5a := Nat.le_of_eq hl5
      have hl5b := Nat.le_of_eq hl5.symm
      clear hl5
      have O5 := Lib.hid ho5
      obtain ⟨a5, c5, rfl, _⟩ := Own.open ho5
      have hzl : zs.length ≤ 1048576 := by omega
      clear hb5 ho5
      cases h5 : katV zs
      · have H5 := Lib.hid h5
        go_wp2_with (go_at_call 28; refine (spec_KatValid _ _ _ zs _ O5.out.sl hzl).mono ?_; rintro e w' ⟨rfl, rfl⟩)
        go_ret2
        exact RetVB.mk _ _ rfl ⟨HB.out.trans (((Below.refl _ _).alloc (Nat.le_refl _) _).mono (by omega)), [], (nil_own _).lower (by omega) (Nat.le_refl _), by simp, fun h6 h7 _ h9 => by have := HW.out h6 h7 h9; rw [H5.out] at this; cases this⟩
      · have H5 := Lib.hid (katV_len h5)
        go_wp2_with (go_at_call 28; refine (spec_KatValid _ _ _ zs _ O5.out.sl hzl).mono ?_; rintro e w' ⟨rfl, rfl⟩)
        go_ret2
        exact RetVB.mk _ _ rfl ⟨HB.out, zs, O5.out.lower (by omega) (Nat.le_refl _), H5.out, fun _ _ _ _ => by omega⟩

set_option maxRecDepth 100000 in
set_option maxHeartbeats 6400000 in
theorem spec_KatIf (lo hi lo' hi' : Nat) (va vb : Value) (xs ys : List Int) (t : Int) (w : World) (hx : SlI lo hi w va xs) (hy : SlI lo' hi' w vb ys) (hh : hi ≤ w.heap.size) (hh' : hi' ≤ w.heap.size) (hm : xs.length + ys.length ≤ 1000000) :
    Calls Tryz.prog 182 #[.int .i64 t, va, vb] w (MadeI w) := by
  have HX := Lib.hid hx
  have HY := Lib.hid hy
  obtain ⟨xa, xc, rfl, _, _⟩ := Sl.shape hx
  obtain ⟨ya, yc, rfl, _, _⟩ := Sl.shape hy
  clear hx hy
  obtain ⟨t1, ht1⟩ : ∃ t1, t1 = inB t 0 15 := ⟨_, rfl⟩
  have HT := Lib.hid ht1
  go_enter Tryz.func182, Tryz.ntmps182
  go_wp2_with fail
  refine (specTestValid_any _ _).mono ?_
  rintro e _ ⟨rfl, rfl⟩
  rw [← ht1]
  clear ht1
  cases t1
  · go_wp2
    go_ret2
    exact RetVB.mk _ _ rfl ⟨(Below.refl _ _).alloc (Nat.le_refl _) _, [], nil_own _, by simp⟩
  go_wp2_with fail
  refine (spec_KatValid _ _ _ xs _ HX.out (by omega)).mono ?_
  rintro e _ ⟨rfl, rfl⟩
  cases katV xs
  · go_wp2
    go_ret2
    exact RetVB.mk _ _ rfl ⟨(Below.refl _ _).alloc (Nat.le_refl _) _, [], nil_own _, by simp⟩
  go_wp2_with fail
  refine (spec_KatValid _ _ _ ys _ HY.out (by omega)).mono ?_
  rintro e _ ⟨rfl, rfl⟩
  cases katV ys
  · go_wp2
    go_ret2
    exact RetVB.mk _ _ rfl ⟨(Below.refl _ _).alloc (Nat.le_refl _) _, [], nil_own _, by simp⟩
  go_wp2_with fail
  obtain ⟨w1, hw1⟩ : ∃ w1, w1 = w.alloc (.cells #[.int .i64 t] 3) := ⟨_, rfl⟩
  have hb1 : Below w.heap.size w w1 := by rw [hw1]; exact (Below.refl _ _).alloc (Nat.le_refl _) _
  have OT : Hid (OwnI w.heap.size w1.heap.size 3 w1 (.slice (some ⟨w.heap.size, 0, none⟩) 1 1) [t]) := Lib.hid (by rw [hw1]; exact one_own _ _)
  simp only [← hw1]
  have hs1 : w.heap.size + 1 ≤ w1.heap.size := by rw [hw1]; simp
  replace HX := Lib.hid (HX.out.below hb1 hh)
  replace HY := Lib.hid (HY.out.below hb1 hh')
  have HB := Lib.hid hb1
  clear hw1 hb1
  refine (l2Join_any _ _ _ _ _ _ [t] xs 19 w1 OT.out.sl HX.out (by omega) (by omega) (by simp; omega)).mono ?_
  rintro e w2 ⟨v2, rfl, hb2, ho2⟩
  have hs2 := hb2.size
  replace HB := Lib.hid (HB.out.trans (hb2.mono (by omega)))
  replace HY := Lib.hid (HY.out.below hb2 (by omega))
  have hl2 : ([t] ++ xs ++ [19]).length = xs.length + 2 := by simp
  generalize [t] ++ xs ++ [19] = js at ho2 hl2
  have hl2a := Nat.le_of_eq hl2
  have hl2b := Nat.le_of_eq hl2.symm
  clear hl2
  have O2 := Lib.hid ho2
  obtain ⟨a2, c2, rfl, _⟩ := Own.open ho2
  clear hb2 ho2
  have hin : inB t 0 15 = true := HT.out.symm
  go_wp2_with (go_at_call 153; refine (specTestNot_any t _ hin).mono ?_; rintro e w' ⟨rfl, rfl⟩)
  obtain ⟨w4, hw4⟩ : ∃ w4, w4 = w2.alloc (.cells #[.int .i64 (15 - t)] 3) := ⟨_, rfl⟩
  have hb4 : Below w2.heap.size w2 w4 := by rw [hw4]; exact (Below.refl _ _).alloc (Nat.le_refl _) _
  have O4 : Hid (OwnI w2.heap.size w4.heap.size 3 w4 (.slice (some ⟨w2.heap.size, 0, none⟩) 1 1) [15 - t]) := Lib.hid (by rw [hw4]; exact one_own _ _)
  simp only [← hw4]
  have hs4 : w2.heap.size + 1 ≤ w4.heap.size := by rw [hw4]; simp
  replace O2 := Lib.hid (O2.out.below hb4 (Nat.le_refl _))
  replace HY := Lib.hid (HY.out.below hb4 (by omega))
  replace HB := Lib.hid (HB.out.trans (hb4.mono (by omega)))
  clear hw4 hb4 hin
  refine (l2Join_any _ _ _ _ _ _ [15 - t] ys 19 w4 O4.out.sl HY.out (by omega) (by omega) (by simp; omega)).mono ?_
  rintro e w5 ⟨v5, rfl, hb5, ho5⟩
  have hs5 := hb5.size
  replace HB := Lib.hid (HB.out.trans (hb5.mono (by omega)))
  replace O2 := Lib.hid (O2.out.below hb5 (by omega))
  have hl5 : ([15 - t] ++ ys ++ [19]).length = ys.length + 2 := by simp
  generalize [15 - t] ++ ys ++ [19] = ks at ho5 hl5
  have hl5a := Nat.le_of_eq hl5
  have hl5b := Nat.le_of_eq hl5.symm
  clear hl5
  have O5 := Lib.hid ho5
  obtain ⟨a5, c5, rfl, _⟩ := Own.open ho5
  clear hb5 ho5
  go_wp2_with fail
  refine (l2Join_any _ _ _ _ _ _ js ks 20 w5 O2.out.sl O5.out.sl (by omega) (by omega) (by omega)).mono ?_
  rintro e w6 ⟨v6, rfl, hb6, ho6⟩
  have hs6 := hb6.size
  replace HB := Lib.hid (HB.out.trans (hb6.mono (by omega)))
  have hl6 : (js ++ ks ++ [20]).length ≤ xs.length + ys.length + 5 := by simp; omega
  generalize js ++ ks ++ [20] = zs at ho6 hl6
  have O6 := Lib.hid ho6
  obtain ⟨a6, c6, rfl, _⟩ := Own.open ho6
  have hzl : zs.length ≤ 1048576 := by omega
  clear hb6 ho6
  cases h5 : katV zs
  · go_wp2_with (go_at_call 28; refine (spec_KatValid _ _ _ zs _ O6.out.sl hzl).mono ?_; rintro e w' ⟨rfl, rfl⟩)
    go_ret2
    exact RetVB.mk _ _ rfl ⟨HB.out.trans (((Below.refl _ _).alloc (Nat.le_refl _) _).mono (by omega)), [], (nil_own _).lower (by omega) (Nat.le_refl _), by simp⟩
  · have H5 := Lib.hid (katV_len h5)
    go_wp2_with (go_at_call 28; refine (spec_KatValid _ _ _ zs _ O6.out.sl hzl).mono ?_; rintro e w' ⟨rfl, rfl⟩)
    go_ret2
    exact RetVB.mk _ _ rfl ⟨HB.out, zs, O6.out.lower (by omega) (Nat.le_refl _), H5.out⟩
end

section

set_option maxRecDepth 100000 in
set_option maxHeartbeats 6400000 in
theorem l20While0_any (g c : Nat) (w : World) (h : Rd g w c) (hc : c ≤ 200000000) :
    Calls Tryz.prog 170 #[.pointer (some ⟨g, 0, none⟩), .int .i64 0] w (RetV fun v w' => DrawnI g (c + 30) w v w' 40) := by
  have hg := h.lt
  have HR := Lib.hid h
  have HO := Lib.hid (Outside.refl g (g + 1) w)
  clear h
  go_enter Tryz.func170, Tryz.ntmps170
  go_wp2_with fail
  refine (pick_any g _ _ _ HR.out (by omega)).mono ?_
  rintro e w1 ⟨q1, rfl, i_, h_, r_⟩
  obtain ⟨i1_q1, i2_q1⟩ := i_.lt (by omega)
  clear i_
  have hs1 := h_.size
  replace HO := Lib.hid (HO.out.trans h_)
  replace HR := Lib.hid r_
  clear h_ r_
  go_wp2_with fail
  obtain ⟨w2, hw_⟩ : ∃ w_, w_ = w1.alloc (.cells #[.int .i64 (16 + q1)] 3) := ⟨_, rfl⟩
  obtain ⟨h_, K_, hs2⟩ := box_facts2 hw_
  have HL_ := Lib.hid hw_
  simp only [← hw_]
  clear hw_
  replace HO := Lib.hid (HO.out.below h_ (by omega)); replace HR := Lib.hid (HR.out.below h_ (by omega))
  clear h_
  have OA : Hid (OwnI w1.heap.size w2.heap.size 3 w2 (.slice (some ⟨w1.heap.size, 0, none⟩) 1 1) [16 + q1]) := Lib.hid (by rw [HL_.out]; exact one_own _ _)
  clear HL_ K_
  skip
  refine (pick_any g _ _ _ HR.out (by omega)).mono ?_
  rintro e w3 ⟨q2, rfl, i_, h_, r_⟩
  obtain ⟨i1_q2, i2_q2⟩ := i_.lt (by omega)
  clear i_
  have hs3 := h_.size
  replace OA := Lib.hid (OA.out.outside h_ (.inr (by omega)))
  replace HO := Lib.hid (HO.out.trans h_)
  replace HR := Lib.hid r_
  clear h_ r_
  obtain ⟨y, rfl⟩ : ∃ y : Nat, q2 = y := ⟨q2.toNat, by omega⟩
  go_wp2
  go_loopw [5, 6] (fun v i wr => ∃ (j : Nat) (a : Option Addr) (cap : Nat) (xs : List Int), v = .slice a xs.length cap ∧ j ≤ 2 ∧ i = .int .i64 j ∧ xs.length ≤ 40 ∧ Hid (OwnI w.heap.size wr.heap.size 3 wr (.slice a xs.length cap) xs ∧ Outside g (g + 1) w wr ∧ Rd g wr (c + 4 + 8 * (2 - j)))) (fun _ i _ => (intOf i).toNat)
  case atStart => exact ⟨y + 1, _, _, [16 + q1], rfl, by omega, by go_num, by simp, Lib.hid ⟨OA.out.lower (by omega) (by omega), HO.out, HR.out.mono (by omega)⟩⟩
  case round =>
    clear OA HO HR
    obtain ⟨j, a, cap, xs, rfl, hj, rfl, hlen, HQ⟩ := hrel
    have OX := Lib.hid HQ.out.1
    have HO := Lib.hid HQ.out.2.1
    have HR := Lib.hid HQ.out.2.2
    clear HQ
    have hsz := HO.out.size
    by_cases hj0 : 0 < j
    · skip
      go_wp2_with fail
      refine (pick_any g _ _ _ HR.out (by omega)).mono ?_
      rintro e w4 ⟨q3, rfl, i_, h_, r_⟩
      obtain ⟨i1_q3, i2_q3⟩ := i_.lt (by omega)
      clear i_
      have hs4 := h_.size
      replace OX := Lib.hid (OX.out.outside h_ (.inr (by omega)))
      replace HO := Lib.hid (HO.out.trans h_)
      replace HR := Lib.hid r_
      clear h_ r_
      go_wp2_with fail
      obtain ⟨w5, hw_⟩ : ∃ w_, w_ = w4.alloc (.cells #[.int .i64 (16 + q3)] 3) := ⟨_, rfl⟩
      obtain ⟨h_, K_, hs5⟩ := box_facts2 hw_
      have HL_ := Lib.hid hw_
      simp only [← hw_]
      clear hw_
      replace OX := Lib.hid (OX.out.below h_ (by omega)); replace HO := Lib.hid (HO.out.below h_ (by omega)); replace HR := Lib.hid (HR.out.below h_ (by omega))
      clear h_
      have ON : Hid (OwnI w4.heap.size w5.heap.size 3 w5 (.slice (some ⟨w4.heap.size, 0, none⟩) 1 1) [16 + q3]) := Lib.hid (by rw [HL_.out]; exact one_own _ _)
      clear HL_ K_
      skip
      refine (pick_any g _ _ _ HR.out (by omega)).mono ?_
      rintro e w6 ⟨q7, rfl, i_, h_, r_⟩
      obtain ⟨i1_q7, i2_q7⟩ := i_.lt (by omega)
      clear i_
      have hs6 := h_.size
      replace OX := Lib.hid (OX.out.outside h_ (.inr (by omega))); replace ON := Lib.hid (ON.out.outside h_ (.inr (by omega)))
      replace HO := Lib.hid (HO.out.trans h_)
      replace HR := Lib.hid r_
      clear h_ r_
      cases hq7 : q7 == 0
      · skip
        go_wp2_with fail
        refine (spec_KatThen _ _ _ _ _ _ xs [16 + q3] _ OX.out.sl ON.out.sl (by omega) (by omega) (by first | omega | (simp; omega))).mono ?_
        rintro e w7 ⟨vt, okt, rfl, h_, zt, ot, lt_⟩
        have hs7 := h_.size
        replace OX := Lib.hid (OX.out.below h_ (by omega)); replace ON := Lib.hid (ON.out.below h_ (by omega)); replace HO := Lib.hid (HO.out.below h_ (by omega)); replace HR := Lib.hid (HR.out.below h_ (by omega))
        have OT := Lib.hid (ot)
        obtain ⟨at_, ct_, rfl, _⟩ := Own.open ot
        clear ot
        clear h_
        go_wp2_with fail
        refine (pick_any g _ _ _ HR.out (by omega)).mono ?_
        rintro e w8 ⟨q4, rfl, i_, h_, r_⟩
        obtain ⟨i1_q4, i2_q4⟩ := i_.lt (by omega)
        clear i_
        have hs8 := h_.size
        replace OX := Lib.hid (OX.out.outside h_ (.inr (by omega))); replace ON := Lib.hid (ON.out.outside h_ (.inr (by omega))); replace OT := Lib.hid (OT.out.outside h_ (.inr (by omega)))
        replace HO := Lib.hid (HO.out.trans h_)
        replace HR := Lib.hid r_
        clear h_ r_
        cases hq4 : q4 == 0
        · cases okt
          · go_wp2
            go_roundw
            case rel => exact ⟨j - 1, _, _, xs, by first | rfl | simp, by omega, by go_num, by first | assumption | simp | omega, Lib.hid ⟨OX.out.lower (by omega) (by omega), HO.out, HR.out.mono (by omega)⟩⟩
            case measure => simp [intOf]; omega
          · go_wp2
            go_roundw
            case rel => exact ⟨j - 1, _, _, zt, by first | rfl | simp, by omega, by go_num, by first | assumption | simp | omega, Lib.hid ⟨OT.out.lower (by omega) (by omega), HO.out, HR.out.mono (by omega)⟩⟩
            case measure => simp [intOf]; omega
        · go_wp2
          go_roundw
          case rel => exact ⟨j - 1, _, _, [16 + q3], by first | rfl | simp, by omega, by go_num, by first | assumption | simp | omega, Lib.hid ⟨ON.out.lower (by omega) (by omega), HO.out, HR.out.mono (by omega)⟩⟩
          case measure => simp [intOf]; omega
      · go_wp2_with fail
        obtain ⟨w7, hw_⟩ : ∃ w_, w_ = w6.alloc (.cells #[.int .i64 15] 3) := ⟨_, rfl⟩
        obtain ⟨h_, K_, hs7⟩ := box_facts2 hw_
        have HL_ := Lib.hid hw_
        simp only [← hw_]
        clear hw_
        replace OX := Lib.hid (OX.out.below h_ (by omega)); replace ON := Lib.hid (ON.out.below h_ (by omega)); replace HO := Lib.hid (HO.out.below h_ (by omega)); replace HR := Lib.hid (HR.out.below h_ (by omega))
        clear h_
        have OF : Hid (OwnI w6.heap.size w7.heap.size 3 w7 (.slice (some ⟨w6.heap.size, 0, none⟩) 1 1) [15]) := Lib.hid (by rw [HL_.out]; exact one_own _ _)
        clear HL_ K_
        skip
        refine (spec_KatThen _ _ _ _ _ _ xs [15] _ OX.out.sl OF.out.sl (by omega) (by omega) (by first | omega | (simp; omega))).mono ?_
        rintro e w8 ⟨vt, okt, rfl, h_, zt, ot, lt_⟩
        have hs8 := h_.size
        replace OX := Lib.hid (OX.out.below h_ (by omega)); replace ON := Lib.hid (ON.out.below h_ (by omega)); replace OF := Lib.hid (OF.out.below h_ (by omega)); replace HO := Lib.hid (HO.out.below h_ (by omega)); replace HR := Lib.hid (HR.out.below h_ (by omega))
        have OT := Lib.hid (ot)
        obtain ⟨at_, ct_, rfl, _⟩ := Own.open ot
        clear ot
        clear h_
        go_wp2_with fail
        refine (pick_any g _ _ _ HR.out (by omega)).mono ?_
        rintro e w9 ⟨q4, rfl, i_, h_, r_⟩
        obtain ⟨i1_q4, i2_q4⟩ := i_.lt (by omega)
        clear i_
        have hs9 := h_.size
        replace OX := Lib.hid (OX.out.outside h_ (.inr (by omega))); replace ON := Lib.hid (ON.out.outside h_ (.inr (by omega))); replace OF := Lib.hid (OF.out.outside h_ (.inr (by omega))); replace OT := Lib.hid (OT.out.outside h_ (.inr (by omega)))
        replace HO := Lib.hid (HO.out.trans h_)
        replace HR := Lib.hid r_
        clear h_ r_
        cases hq4 : q4 == 0
        · cases okt
          · go_wp2
            go_roundw
            case rel => exact ⟨j - 1, _, _, xs, by first | rfl | simp, by omega, by go_num, by first | assumption | simp | omega, Lib.hid ⟨OX.out.lower (by omega) (by omega), HO.out, HR.out.mono (by omega)⟩⟩
            case measure => simp [intOf]; omega
          · go_wp2
            go_roundw
            case rel => exact ⟨j - 1, _, _, zt, by first | rfl | simp, by omega, by go_num, by first | assumption | simp | omega, Lib.hid ⟨OT.out.lower (by omega) (by omega), HO.out, HR.out.mono (by omega)⟩⟩
            case measure => simp [intOf]; omega
        · go_wp2
          go_roundw
          case rel => exact ⟨j - 1, _, _, [15], by first | rfl | simp, by omega, by go_num, by first | assumption | simp | omega, Lib.hid ⟨OF.out.lower (by omega) (by omega), HO.out, HR.out.mono (by omega)⟩⟩
          case measure => simp [intOf]; omega
    · go_wp2
      go_ret
      exact RetV.mk _ rfl ⟨xs, OX.out, hlen, HO.out, HR.out.mono (by omega)⟩

set_option maxRecDepth 100000 in
set_option maxHeartbeats 6400000 in
theorem l20While1_any (g c : Nat) (w : World) (h : Rd g w c) (hc : c ≤ 100000000) :
    Calls Tryz.prog 170 #[.pointer (some ⟨g, 0, none⟩), .int .i64 1] w (RetV fun v w' => DrawnI g (c + 180) w v w' 40) := by
  have hg := h.lt
  have HR := Lib.hid h
  have HO := Lib.hid (Outside.refl g (g + 1) w)
  clear h
  go_enter Tryz.func170, Tryz.ntmps170
  go_wp2_with fail
  refine (pick_any g _ _ _ HR.out (by omega)).mono ?_
  rintro e w1 ⟨q1, rfl, i_, h_, r_⟩
  obtain ⟨i1_q1, i2_q1⟩ := i_.lt (by omega)
  clear i_
  have hs1 := h_.size
  replace HO := Lib.hid (HO.out.trans h_)
  replace HR := Lib.hid r_
  clear h_ r_
  go_wp2_with fail
  obtain ⟨w2, hw_⟩ : ∃ w_, w_ = w1.alloc (.cells #[.int .i64 (16 + q1)] 3) := ⟨_, rfl⟩
  obtain ⟨h_, K_, hs2⟩ := box_facts2 hw_
  have HL_ := Lib.hid hw_
  simp only [← hw_]
  clear hw_
  replace HO := Lib.hid (HO.out.below h_ (by omega)); replace HR := Lib.hid (HR.out.below h_ (by omega))
  clear h_
  have OA : Hid (OwnI w1.heap.size w2.heap.size 3 w2 (.slice (some ⟨w1.heap.size, 0, none⟩) 1 1) [16 + q1]) := Lib.hid (by rw [HL_.out]; exact one_own _ _)
  clear HL_ K_
  skip
  refine (pick_any g _ _ _ HR.out (by omega)).mono ?_
  rintro e w3 ⟨q2, rfl, i_, h_, r_⟩
  obtain ⟨i1_q2, i2_q2⟩ := i_.lt (by omega)
  clear i_
  have hs3 := h_.size
  replace OA := Lib.hid (OA.out.outside h_ (.inr (by omega)))
  replace HO := Lib.hid (HO.out.trans h_)
  replace HR := Lib.hid r_
  clear h_ r_
  obtain ⟨y, rfl⟩ : ∃ y : Nat, q2 = y := ⟨q2.toNat, by omega⟩
  go_wp2
  go_loopw [5, 6] (fun v i wr => ∃ (j : Nat) (a : Option Addr) (cap : Nat) (xs : List Int), v = .slice a xs.length cap ∧ j ≤ 2 ∧ i = .int .i64 j ∧ xs.length ≤ 40 ∧ Hid (OwnI w.heap.size wr.heap.size 3 wr (.slice a xs.length cap) xs ∧ Outside g (g + 1) w wr ∧ Rd g wr (c + 4 + 80 * (2 - j)))) (fun _ i _ => (intOf i).toNat)
  case atStart => exact ⟨y + 1, _, _, [16 + q1], rfl, by omega, by go_num, by simp, Lib.hid ⟨OA.out.lower (by omega) (by omega), HO.out, HR.out.mono (by omega)⟩⟩
  case round =>
    clear OA HO HR
    obtain ⟨j, a, cap, xs, rfl, hj, rfl, hlen, HQ⟩ := hrel
    have OX := Lib.hid HQ.out.1
    have HO := Lib.hid HQ.out.2.1
    have HR := Lib.hid HQ.out.2.2
    clear HQ
    have hsz := HO.out.size
    by_cases hj0 : 0 < j
    · skip
      go_wp2_with fail
      refine (pick_any g _ _ _ HR.out (by omega)).mono ?_
      rintro e w4 ⟨q3, rfl, i_, h_, r_⟩
      obtain ⟨i1_q3, i2_q3⟩ := i_.lt (by omega)
      clear i_
      have hs4 := h_.size
      replace OX := Lib.hid (OX.out.outside h_ (.inr (by omega)))
      replace HO := Lib.hid (HO.out.trans h_)
      replace HR := Lib.hid r_
      clear h_ r_
      go_wp2_with fail
      obtain ⟨w5, hw_⟩ : ∃ w_, w_ = w4.alloc (.cells #[.int .i64 (16 + q3)] 3) := ⟨_, rfl⟩
      obtain ⟨h_, K_, hs5⟩ := box_facts2 hw_
      have HL_ := Lib.hid hw_
      simp only [← hw_]
      clear hw_
      replace OX := Lib.hid (OX.out.below h_ (by omega)); replace HO := Lib.hid (HO.out.below h_ (by omega)); replace HR := Lib.hid (HR.out.below h_ (by omega))
      clear h_
      have ON : Hid (OwnI w4.heap.size w5.heap.size 3 w5 (.slice (some ⟨w4.heap.size, 0, none⟩) 1 1) [16 + q3]) := Lib.hid (by rw [HL_.out]; exact one_own _ _)
      clear HL_ K_
      skip
      refine (pick_any g _ _ _ HR.out (by omega)).mono ?_
      rintro e w6 ⟨q5, rfl, i_, h_, r_⟩
      obtain ⟨i1_q5, i2_q5⟩ := i_.lt (by omega)
      clear i_
      have hs6 := h_.size
      replace OX := Lib.hid (OX.out.outside h_ (.inr (by omega))); replace ON := Lib.hid (ON.out.outside h_ (.inr (by omega)))
      replace HO := Lib.hid (HO.out.trans h_)
      replace HR := Lib.hid r_
      clear h_ r_
      cases hq5 : q5 == 0
      · skip
        go_wp2_with fail
        refine (pick_any g _ _ _ HR.out (by omega)).mono ?_
        rintro e w7 ⟨q6, rfl, i_, h_, r_⟩
        obtain ⟨i1_q6, i2_q6⟩ := i_.lt (by omega)
        clear i_
        have hs7 := h_.size
        replace OX := Lib.hid (OX.out.outside h_ (.inr (by omega))); replace ON := Lib.hid (ON.out.outside h_ (.inr (by omega)))
        replace HO := Lib.hid (HO.out.trans h_)
        replace HR := Lib.hid r_
        clear h_ r_
        cases hq6 : q6 == 0
        · skip
          go_wp2_with fail
          refine (pick_any g _ _ _ HR.out (by omega)).mono ?_
          rintro e w8 ⟨q7, rfl, i_, h_, r_⟩
          obtain ⟨i1_q7, i2_q7⟩ := i_.lt (by omega)
          clear i_
          have hs8 := h_.size
          replace OX := Lib.hid (OX.out.outside h_ (.inr (by omega))); replace ON := Lib.hid (ON.out.outside h_ (.inr (by omega)))
          replace HO := Lib.hid (HO.out.trans h_)
          replace HR := Lib.hid r_
          clear h_ r_
          cases hq7 : q7 == 0
          · skip
            go_wp2_with fail
            refine (spec_KatThen _ _ _ _ _ _ xs [16 + q3] _ OX.out.sl ON.out.sl (by omega) (by omega) (by first | omega | (simp; omega))).mono ?_
            rintro e w9 ⟨vt, okt, rfl, h_, zt, ot, lt_⟩
            have hs9 := h_.size
            replace OX := Lib.hid (OX.out.below h_ (by omega)); replace ON := Lib.hid (ON.out.below h_ (by omega)); replace HO := Lib.hid (HO.out.below h_ (by omega)); replace HR := Lib.hid (HR.out.below h_ (by omega))
            have OT := Lib.hid (ot)
            obtain ⟨at_, ct_, rfl, _⟩ := Own.open ot
            clear ot
            clear h_
            go_wp2_with fail
            refine (pick_any g _ _ _ HR.out (by omega)).mono ?_
            rintro e w10 ⟨q4, rfl, i_, h_, r_⟩
            obtain ⟨i1_q4, i2_q4⟩ := i_.lt (by omega)
            clear i_
            have hs10 := h_.size
            replace OX := Lib.hid (OX.out.outside h_ (.inr (by omega))); replace ON := Lib.hid (ON.out.outside h_ (.inr (by omega))); replace OT := Lib.hid (OT.out.outside h_ (.inr (by omega)))
            replace HO := Lib.hid (HO.out.trans h_)
            replace HR := Lib.hid r_
            clear h_ r_
            cases hq4 : q4 == 0
            · cases okt
              · go_wp2
                go_roundw
                case rel => exact ⟨j - 1, _, _, xs, by first | rfl | simp, by omega, by go_num, by first | assumption | simp | omega, Lib.hid ⟨OX.out.lower (by omega) (by omega), HO.out, HR.out.mono (by omega)⟩⟩
                case measure => simp [intOf]; omega
              · go_wp2
                go_roundw
                case rel => exact ⟨j - 1, _, _, zt, by first | rfl | simp, by omega, by go_num, by first | assumption | simp | omega, Lib.hid ⟨OT.out.lower (by omega) (by omega), HO.out, HR.out.mono (by omega)⟩⟩
                case measure => simp [intOf]; omega
            · go_wp2
              go_roundw
              case rel => exact ⟨j - 1, _, _, [16 + q3], by first | rfl | simp, by omega, by go_num, by first | assumption | simp | omega, Lib.hid ⟨ON.out.lower (by omega) (by omega), HO.out, HR.out.mono (by omega)⟩⟩
              case measure => simp [intOf]; omega
          · go_wp2_with fail
            obtain ⟨w9, hw_⟩ : ∃ w_, w_ = w8.alloc (.cells #[.int .i64 15] 3) := ⟨_, rfl⟩
            obtain ⟨h_, K_, hs9⟩ := box_facts2 hw_
            have HL_ := Lib.hid hw_
            simp only [← hw_]
            clear hw_
            replace OX := Lib.hid (OX.out.below h_ (by omega)); replace ON := Lib.hid (ON.out.below h_ (by omega)); replace HO := Lib.hid (HO.out.below h_ (by omega)); replace HR := Lib.hid (HR.out.below h_ (by omega))
            clear h_
            have OF : Hid (OwnI w8.heap.size w9.heap.size 3 w9 (.slice (some ⟨w8.heap.size, 0, none⟩) 1 1) [15]) := Lib.hid (by rw [HL_.out]; exact one_own _ _)
            clear HL_ K_
            skip
            refine (spec_KatThen _ _ _ _ _ _ xs [15] _ OX.out.sl OF.out.sl (by omega) (by omega) (by first | omega | (simp; omega))).mono ?_
            rintro e w10 ⟨vt, okt, rfl, h_, zt, ot, lt_⟩
            have hs10 := h_.size
            replace OX := Lib.hid (OX.out.below h_ (by omega)); replace ON := Lib.hid (ON.out.below h_ (by omega)); replace OF := Lib.hid (OF.out.below h_ (by omega)); replace HO := Lib.hid (HO.out.below h_ (by omega)); replace HR := Lib.hid (HR.out.below h_ (by omega))
            have OT := Lib.hid (ot)
            obtain ⟨at_, ct_, rfl, _⟩ := Own.open ot
            clear ot
            clear h_
            go_wp2_with fail
            refine (pick_any g _ _ _ HR.out (by omega)).mono ?_
            rintro e w11 ⟨q4, rfl, i_, h_, r_⟩
            obtain ⟨i1_q4, i2_q4⟩ := i_.lt (by omega)
            clear i_
            have hs11 := h_.size
            replace OX := Lib.hid (OX.out.outside h_ (.inr (by omega))); replace ON := Lib.hid (ON.out.outside h_ (.inr (by omega))); replace OF := Lib.hid (OF.out.outside h_ (.inr (by omega))); replace OT := Lib.hid (OT.out.outside h_ (.inr (by omega)))
            replace HO := Lib.hid (HO.out.trans h_)
            replace HR := Lib.hid r_
            clear h_ r_
            cases hq4 : q4 == 0
            · cases okt
              · go_wp2
                go_roundw
                case rel => exact ⟨j - 1, _, _, xs, by first | rfl | simp, by omega, by go_num, by first | assumption | simp | omega, Lib.hid ⟨OX.out.lower (by omega) (by omega), HO.out, HR.out.mono (by omega)⟩⟩
                case measure => simp [intOf]; omega
              · go_wp2
                go_roundw
                case rel => exact ⟨j - 1, _, _, zt, by first | rfl | simp, by omega, by go_num, by first | assumption | simp | omega, Lib.hid ⟨OT.out.lower (by omega) (by omega), HO.out, HR.out.mono (by omega)⟩⟩
                case measure => simp [intOf]; omega
            · go_wp2
              go_roundw
              case rel => exact ⟨j - 1, _, _, [15], by first | rfl | simp, by omega, by go_num, by first | assumption | simp | omega, Lib.hid ⟨OF.out.lower (by omega) (by omega), HO.out, HR.out.mono (by omega)⟩⟩
              case measure => simp [intOf]; omega
        · skip
          go_wp2_with fail
          refine (l20Test_any g _ 0 _ HR.out (by omega) (by omega)).mono ?_
          rintro e w8 ⟨t1, rfl, ⟨i0_t1, i1_t1, i2_t1⟩, h_, r_⟩
          have hs8 := h_.size
          replace OX := Lib.hid (OX.out.outside h_ (.inr (by omega))); replace ON := Lib.hid (ON.out.outside h_ (.inr (by omega)))
          replace HO := Lib.hid (HO.out.trans h_)
          replace HR := Lib.hid r_
          clear h_ r_
          go_wp2_with fail
          refine (l20While0_any g _ _ HR.out (by omega)).mono ?_
          rintro e w9 ⟨v_OB, rfl, bs, o_, l_bs, h_, r_⟩
          have hs9 := h_.size
          replace OX := Lib.hid (OX.out.outside h_ (.inr (by omega))); replace ON := Lib.hid (ON.out.outside h_ (.inr (by omega)))
          replace HO := Lib.hid (HO.out.trans h_)
          replace HR := Lib.hid r_
          clear h_ r_
          have OB := Lib.hid o_
          clear o_
          obtain ⟨a_OB, c_OB, rfl, _, _⟩ := Sl.shape OB.out.sl
          go_wp2_with fail
          refine (spec_KatWhile _ _ _ bs t1 _ OB.out.sl (by omega) (by omega)).mono ?_
          rintro e w10 ⟨vk, okk, rfl, h_, ks, ok_, lk_, _⟩
          have hs10 := h_.size
          replace OX := Lib.hid (OX.out.below h_ (by omega)); replace ON := Lib.hid (ON.out.below h_ (by omega)); replace OB := Lib.hid (OB.out.below h_ (by omega)); replace HO := Lib.hid (HO.out.below h_ (by omega)); replace HR := Lib.hid (HR.out.below h_ (by omega))
          have OK := Lib.hid (ok_)
          obtain ⟨ak_, ck_, rfl, _⟩ := Own.open ok_
          clear ok_
          clear h_
          cases okk
          · skip
            go_wp2_with fail
            refine (spec_KatThen _ _ _ _ _ _ xs [16 + q3] _ OX.out.sl ON.out.sl (by omega) (by omega) (by first | omega | (simp; omega))).mono ?_
            rintro e w11 ⟨vt, okt, rfl, h_, zt, ot, lt_⟩
            have hs11 := h_.size
            replace OX := Lib.hid (OX.out.below h_ (by omega)); replace ON := Lib.hid (ON.out.below h_ (by omega)); replace OB := Lib.hid (OB.out.below h_ (by omega)); replace OK := Lib.hid (OK.out.below h_ (by omega)); replace HO := Lib.hid (HO.out.below h_ (by omega)); replace HR := Lib.hid (HR.out.below h_ (by omega))
            have OT := Lib.hid (ot)
            obtain ⟨at_, ct_, rfl, _⟩ := Own.open ot
            clear ot
            clear h_
            go_wp2_with fail
            refine (pick_any g _ _ _ HR.out (by omega)).mono ?_
            rintro e w12 ⟨q4, rfl, i_, h_, r_⟩
            obtain ⟨i1_q4, i2_q4⟩ := i_.lt (by omega)
            clear i_
            have hs12 := h_.size
            replace OX := Lib.hid (OX.out.outside h_ (.inr (by omega))); replace ON := Lib.hid (ON.out.outside h_ (.inr (by omega))); replace OB := Lib.hid (OB.out.outside h_ (.inr (by omega))); replace OK := Lib.hid (OK.out.outside h_ (.inr (by omega))); replace OT := Lib.hid (OT.out.outside h_ (.inr (by omega)))
            replace HO := Lib.hid (HO.out.trans h_)
            replace HR := Lib.hid r_
            clear h_ r_
            cases hq4 : q4 == 0
            · cases okt
              · go_wp2
                go_roundw
                case rel => exact ⟨j - 1, _, _, xs, by first | rfl | simp, by omega, by go_num, by first | assumption | simp | omega, Lib.hid ⟨OX.out.lower (by omega) (by omega), HO.out, HR.out.mono (by omega)⟩⟩
                case measure => simp [intOf]; omega
              · go_wp2
                go_roundw
                case rel => exact ⟨j - 1, _, _, zt, by first | rfl | simp, by omega, by go_num, by first | assumption | simp | omega, Lib.hid ⟨OT.out.lower (by omega) (by omega), HO.out, HR.out.mono (by omega)⟩⟩
                case measure => simp [intOf]; omega
            · go_wp2
              go_roundw
              case rel => exact ⟨j - 1, _, _, [16 + q3], by first | rfl | simp, by omega, by go_num, by first | assumption | simp | omega, Lib.hid ⟨ON.out.lower (by omega) (by omega), HO.out, HR.out.mono (by omega)⟩⟩
              case measure => simp [intOf]; omega
          · skip
            go_wp2_with fail
            refine (spec_KatThen _ _ _ _ _ _ xs ks _ OX.out.sl OK.out.sl (by omega) (by omega) (by first | omega | (simp; omega))).mono ?_
            rintro e w11 ⟨vt, okt, rfl, h_, zt, ot, lt_⟩
            have hs11 := h_.size
            replace OX := Lib.hid (OX.out.below h_ (by omega)); replace ON := Lib.hid (ON.out.below h_ (by omega)); replace OB := Lib.hid (OB.out.below h_ (by omega)); replace OK := Lib.hid (OK.out.below h_ (by omega)); replace HO := Lib.hid (HO.out.below h_ (by omega)); replace HR := Lib.hid (HR.out.below h_ (by omega))
            have OT := Lib.hid (ot)
            obtain ⟨at_, ct_, rfl, _⟩ := Own.open ot
            clear ot
            clear h_
            go_wp2_with fail
            refine (pick_any g _ _ _ HR.out (by omega)).mono ?_
            rintro e w12 ⟨q4, rfl, i_, h_, r_⟩
            obtain ⟨i1_q4, i2_q4⟩ := i_.lt (by omega)
            clear i_
            have hs12 := h_.size
            replace OX := Lib.hid (OX.out.outside h_ (.inr (by omega))); replace ON := Lib.hid (ON.out.outside h_ (.inr (by omega))); replace OB := Lib.hid (OB.out.outside h_ (.inr (by omega))); replace OK := Lib.hid (OK.out.outside h_ (.inr (by omega))); replace OT := Lib.hid (OT.out.outside h_ (.inr (by omega)))
            replace HO := Lib.hid (HO.out.trans h_)
            replace HR := Lib.hid r_
            clear h_ r_
            cases hq4 : q4 == 0
            · cases okt
              · go_wp2
                go_roundw
                case rel => exact ⟨j - 1, _, _, xs, by first | rfl | simp, by omega, by go_num, by first | assumption | simp | omega, Lib.hid ⟨OX.out.lower (by omega) (by omega), HO.out, HR.out.mono (by omega)⟩⟩
                case measure => simp [intOf]; omega
              · go_wp2
                go_roundw
                case rel => exact ⟨j - 1, _, _, zt, by first | rfl | simp, by omega, by go_num, by first | assumption | simp | omega, Lib.hid ⟨OT.out.lower (by omega) (by omega), HO.out, HR.out.mono (by omega)⟩⟩
                case measure => simp [intOf]; omega
            · go_wp2
              go_roundw
              case rel => exact ⟨j - 1, _, _, ks, by first | rfl | simp, by omega, by go_num, by first | assumption | simp | omega, Lib.hid ⟨OK.out.lower (by omega) (by omega), HO.out, HR.out.mono (by omega)⟩⟩
              case measure => simp [intOf]; omega
      · skip
        go_wp2_with fail
        refine (l20Test_any g _ 0 _ HR.out (by omega) (by omega)).mono ?_
        rintro e w7 ⟨t1, rfl, ⟨i0_t1, i1_t1, i2_t1⟩, h_, r_⟩
        have hs7 := h_.size
        replace OX := Lib.hid (OX.out.outside h_ (.inr (by omega))); replace ON := Lib.hid (ON.out.outside h_ (.inr (by omega)))
        replace HO := Lib.hid (HO.out.trans h_)
        replace HR := Lib.hid r_
        clear h_ r_
        go_wp2_with fail
        refine (l20While0_any g _ _ HR.out (by omega)).mono ?_
        rintro e w8 ⟨v_OB, rfl, bs, o_, l_bs, h_, r_⟩
        have hs8 := h_.size
        replace OX := Lib.hid (OX.out.outside h_ (.inr (by omega))); replace ON := Lib.hid (ON.out.outside h_ (.inr (by omega)))
        replace HO := Lib.hid (HO.out.trans h_)
        replace HR := Lib.hid r_
        clear h_ r_
        have OB := Lib.hid o_
        clear o_
        obtain ⟨a_OB, c_OB, rfl, _, _⟩ := Sl.shape OB.out.sl
        go_wp2_with fail
        refine (l20While0_any g _ _ HR.out (by omega)).mono ?_
        rintro e w9 ⟨v_OC, rfl, ds, o_, l_ds, h_, r_⟩
        have hs9 := h_.size
        replace OX := Lib.hid (OX.out.outside h_ (.inr (by omega))); replace ON := Lib.hid (ON.out.outside h_ (.inr (by omega))); replace OB := Lib.hid (OB.out.outside h_ (.inr (by omega)))
        replace HO := Lib.hid (HO.out.trans h_)
        replace HR := Lib.hid r_
        clear h_ r_
        have OC := Lib.hid o_
        clear o_
        obtain ⟨a_OC, c_OC, rfl, _, _⟩ := Sl.shape OC.out.sl
        go_wp2_with fail
        refine (spec_KatIf _ _ _ _ _ _ bs ds t1 _ OB.out.sl OC.out.sl (by omega) (by omega) (by omega)).mono ?_
        rintro e w10 ⟨vk, okk, rfl, h_, ks, ok_, lk_⟩
        have hs10 := h_.size
        replace OX := Lib.hid (OX.out.below h_ (by omega)); replace ON := Lib.hid (ON.out.below h_ (by omega)); replace OB := Lib.hid (OB.out.below h_ (by omega)); replace OC := Lib.hid (OC.out.below h_ (by omega)); replace HO := Lib.hid (HO.out.below h_ (by omega)); replace HR := Lib.hid (HR.out.below h_ (by omega))
        have OK := Lib.hid (ok_)
        obtain ⟨ak_, ck_, rfl, _⟩ := Own.open ok_
        clear ok_
        clear h_
        cases okk
        · skip
          go_wp2_with fail
          refine (spec_KatThen _ _ _ _ _ _ xs [16 + q3] _ OX.out.sl ON.out.sl (by omega) (by omega) (by first | omega | (simp; omega))).mono ?_
          rintro e w11 ⟨vt, okt, rfl, h_, zt, ot, lt_⟩
          have hs11 := h_.size
          replace OX := Lib.hid (OX.out.below h_ (by omega)); replace ON := Lib.hid (ON.out.below h_ (by omega)); replace OB := Lib.hid (OB.out.below h_ (by omega)); replace OC := Lib.hid (OC.out.below h_ (by omega)); replace OK := Lib.hid (OK.out.below h_ (by omega)); replace HO := Lib.hid (HO.out.below h_ (by omega)); replace HR := Lib.hid (HR.out.below h_ (by omega))
          have OT := Lib.hid (ot)
          obtain ⟨at_, ct_, rfl, _⟩ := Own.open ot
          clear ot
          clear h_
          go_wp2_with fail
          refine (pick_any g _ _ _ HR.out (by omega)).mono ?_
          rintro e w12 ⟨q4, rfl, i_, h_, r_⟩
          obtain ⟨i1_q4, i2_q4⟩ := i_.lt (by omega)
          clear i_
          have hs12 := h_.size
          replace OX := Lib.hid (OX.out.outside h_ (.inr (by omega))); replace ON := Lib.hid (ON.out.outside h_ (.inr (by omega))); replace OB := Lib.hid (OB.out.outside h_ (.inr (by omega))); replace OC := Lib.hid (OC.out.outside h_ (.inr (by omega))); replace OK := Lib.hid (OK.out.outside h_ (.inr (by omega))); replace OT := Lib.hid (OT.out.outside h_ (.inr (by omega)))
          replace HO := Lib.hid (HO.out.trans h_)
          replace HR := Lib.hid r_
          clear h_ r_
          cases hq4 : q4 == 0
          · cases okt
            · go_wp2
              go_roundw
              case rel => exact ⟨j - 1, _, _, xs, by first | rfl | simp, by omega, by go_num, by first | assumption | simp | omega, Lib.hid ⟨OX.out.lower (by omega) (by omega), HO.out, HR.out.mono (by omega)⟩⟩
              case measure => simp [intOf]; omega
            · go_wp2
              go_roundw
              case rel => exact ⟨j - 1, _, _, zt, by first | rfl | simp, by omega, by go_num, by first | assumption | simp | omega, Lib.hid ⟨OT.out.lower (by omega) (by omega), HO.out, HR.out.mono (by omega)⟩⟩
              case measure => simp [intOf]; omega
          · go_wp2
            go_roundw
            case rel => exact ⟨j - 1, _, _, [16 + q3], by first | rfl | simp, by omega, by go_num, by first | assumption | simp | omega, Lib.hid ⟨ON.out.lower (by omega) (by omega), HO.out, HR.out.mono (by omega)⟩⟩
            case measure => simp [intOf]; omega
        · skip
          go_wp2_with fail
          refine (spec_KatThen _ _ _ _ _ _ xs ks _ OX.out.sl OK.out.sl (by omega) (by omega) (by first | omega | (simp; omega))).mono ?_
          rintro e w11 ⟨vt, okt, rfl, h_, zt, ot, lt_⟩
          have hs11 := h_.size
          replace OX := Lib.hid (OX.out.below h_ (by omega)); replace ON := Lib.hid (ON.out.below h_ (by omega)); replace OB := Lib.hid (OB.out.below h_ (by omega)); replace OC := Lib.hid (OC.out.below h_ (by omega)); replace OK := Lib.hid (OK.out.below h_ (by omega)); replace HO := Lib.hid (HO.out.below h_ (by omega)); replace HR := Lib.hid (HR.out.below h_ (by omega))
          have OT := Lib.hid (ot)
          obtain ⟨at_, ct_, rfl, _⟩ := Own.open ot
          clear ot
          clear h_
          go_wp2_with fail
          refine (pick_any g _ _ _ HR.out (by omega)).mono ?_
          rintro e w12 ⟨q4, rfl, i_, h_, r_⟩
          obtain ⟨i1_q4, i2_q4⟩ := i_.lt (by omega)
          clear i_
          have hs12 := h_.size
          replace OX := Lib.hid (OX.out.outside h_ (.inr (by omega))); replace ON := Lib.hid (ON.out.outside h_ (.inr (by omega))); replace OB := Lib.hid (OB.out.outside h_ (.inr (by omega))); replace OC := Lib.hid (OC.out.outside h_ (.inr (by omega))); replace OK := Lib.hid (OK.out.outside h_ (.inr (by omega))); replace OT := Lib.hid (OT.out.outside h_ (.inr (by omega)))
          replace HO := Lib.hid (HO.out.trans h_)
          replace HR := Lib.hid r_
          clear h_ r_
          cases hq4 : q4 == 0
          · cases okt
            · go_wp2
              go_roundw
              case rel => exact ⟨j - 1, _, _, xs, by first | rfl | simp, by omega, by go_num, by first | assumption | simp | omega, Lib.hid ⟨OX.out.lower (by omega) (by omega), HO.out, HR.out.mono (by omega)⟩⟩
              case measure => simp [intOf]; omega
            · go_wp2
              go_roundw
              case rel => exact ⟨j - 1, _, _, zt, by first | rfl | simp, by omega, by go_num, by first | assumption | simp | omega, Lib.hid ⟨OT.out.lower (by omega) (by omega), HO.out, HR.out.mono (by omega)⟩⟩
              case measure => simp [intOf]; omega
          · go_wp2
            go_roundw
            case rel => exact ⟨j - 1, _, _, ks, by first | rfl | simp, by omega, by go_num, by first | assumption | simp | omega, Lib.hid ⟨OK.out.lower (by omega) (by omega), HO.out, HR.out.mono (by omega)⟩⟩
            case measure => simp [intOf]; omega
    · go_wp2
      go_ret
      exact RetV.mk _ rfl ⟨xs, OX.out, hlen, HO.out, HR.out.mono (by omega)⟩
end

section

set_option maxRecDepth 100000 in
set_option maxHeartbeats 1600000 in
theorem l20Prog_all (g c : Nat) (parts n : Int) (w : World) (h : Rd g w c) (hc : c ≤ 50000000) (hp0 : 0 ≤ parts) (hp : parts ≤ 20) (hn : n ≤ 1000) :
    Calls Tryz.prog 150 #[.pointer (some ⟨g, 0, none⟩), .int .i64 parts, .int .i64 n] w (RetV fun v w' => DrawnI g (c + 500) w v w' 44) := by
  have hg := h.lt
  have HR := Lib.hid h
  have HO := Lib.hid (Outside.refl g (g + 1) w)
  clear h
  go_enter Tryz.func150, Tryz.ntmps150
  go_wp2_with fail
  refine (pick_any g _ _ _ HR.out (by omega)).mono ?_
  rintro e w1 ⟨q, rfl, i_, h_, r_⟩
  obtain ⟨i1_q, i2_q⟩ := i_.lt (by omega)
  clear i_
  have hs1 := h_.size
  replace HO := Lib.hid (HO.out.trans h_)
  replace HR := Lib.hid r_
  clear h_ r_
  cases hq : q == 0
  · skip
    go_wp2_with fail
    refine (l20Kat_any g _ parts n _ HR.out (by omega) hp0 hp (by omega)).mono ?_
    rintro e w2 ⟨v_OK, rfl, ks, o_, l_ks, h_, r_⟩
    have hs2 := h_.size
    replace HO := Lib.hid (HO.out.trans h_)
    replace HR := Lib.hid r_
    clear h_ r_
    have OK := Lib.hid o_
    clear o_
    obtain ⟨a_OK, c_OK, rfl, _, _⟩ := Sl.shape OK.out.sl
    go_wp2
    go_ret
    exact RetV.mk _ rfl ⟨ks, OK.out.lower (by omega) (by omega), by omega, HO.out, HR.out.mono (by omega)⟩
  · skip
    go_wp2_with fail
    refine (l20While1_any g _ _ HR.out (by omega)).mono ?_
    rintro e w2 ⟨v_OK, rfl, ks, o_, l_ks, h_, r_⟩
    have hs2 := h_.size
    replace HO := Lib.hid (HO.out.trans h_)
    replace HR := Lib.hid r_
    clear h_ r_
    have OK := Lib.hid o_
    clear o_
    obtain ⟨a_OK, c_OK, rfl, _, _⟩ := Sl.shape OK.out.sl
    go_wp2
    go_ret
    exact RetV.mk _ rfl ⟨ks, OK.out.lower (by omega) (by omega), by omega, HO.out, HR.out.mono (by omega)⟩

theorem l20Prog_any (g c : Nat) (n : Int) (w : World) (h : Rd g w c) (hc : c ≤ 50000000) (hn : n ≤ 1000) :
    Calls Tryz.prog 150 #[.pointer (some ⟨g, 0, none⟩), .int .i64 3, .int .i64 n] w (RetV fun v w' => DrawnI g (c + 500) w v w' 44) :=
  l20Prog_all g c 3 n w h hc (by omega) (by omega) hn

set_option maxRecDepth 100000 in
set_option maxHeartbeats 1600000 in
theorem l20Small_any (g c : Nat) (n : Int) (w : World) (h : Rd g w c) (hc : c ≤ 40000000) (hn : n ≤ 1000) :
    Calls Tryz.prog 121 #[.pointer (some ⟨g, 0, none⟩), .int .i64 n] w (RetV fun v w' => DrawnI g (c + 500) w v w' 44) := by
  have hg := h.lt
  have HR := Lib.hid h
  have HO := Lib.hid (Outside.refl g (g + 1) w)
  clear h
  go_enter Tryz.func121, Tryz.ntmps121
  go_wp2_with fail
  refine (l20Prog_any g _ n _ HR.out (by omega) hn).mono ?_
  rintro e w1 ⟨v_OK, rfl, ks, o_, l_ks, h_, r_⟩
  have hs1 := h_.size
  replace HO := Lib.hid (HO.out.trans h_)
  replace HR := Lib.hid r_
  clear h_ r_
  have OK := Lib.hid o_
  clear o_
  obtain ⟨a_OK, c_OK, rfl, _, _⟩ := Sl.shape OK.out.sl
  go_wp2_with fail
  refine (spec_KatActs _ _ _ ks _ OK.out.sl (by omega)).mono ?_
  rintro e _ ⟨x, rfl, rfl⟩
  by_cases hx : 4 < x
  · go_wp2
    go_ret
    have h4 : OwnI w1.heap.size (w1.alloc (.cells #[.int .i64 16, .int .i64 17, .int .i64 20, .int .i64 21] 3)).heap.size 3 (w1.alloc (.cells #[.int .i64 16, .int .i64 17, .int .i64 20, .int .i64 21] 3)) (.slice (some ⟨w1.heap.size, 0, none⟩) 4 4) [16, 17, 20, 21] := Own.wide (Own.lit 1 3 w1 (ints [16, 17, 20, 21]) 4 (by omega) rfl) (by simp)
    exact RetV.mk _ rfl ⟨_, h4.lower (by omega) (Nat.le_refl _), by simp, HO.out.below ((Below.refl _ _).alloc (Nat.le_refl _) _) (by omega), (HR.out.alloc _).mono (by omega)⟩
  · skip
    go_wp2
    go_ret
    exact RetV.mk _ rfl ⟨ks, OK.out.lower (by omega) (by omega), by omega, HO.out, HR.out.mono (by omega)⟩
end
end Go.Proofs.YtipbanhelhidnaaGreatDoor
