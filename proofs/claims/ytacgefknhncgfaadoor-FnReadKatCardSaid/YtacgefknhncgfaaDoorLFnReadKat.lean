/-
  Texts of walks and plain lemmas for this seat; no condition.
-/
import Derived.Test.YtacgefknhncgfaaDoorDReadK
import Derived.Test.YtacgefknhncgfaaDoorKTot3
import Derived.Test.YtacgefknhncgfaaDoorSKatT
import Derived.Test.YtacgefknhncgfaaDoorIKText
import Derived.Test.YtacgefknhncgfaaDoorSameI
namespace Go.Proofs.YtacgefknhncgfaaDoor
open Go.RowKit

theorem katTxt_least {l : List UInt8} {es : List Int} (h : readF l = some es) : katV es = true ∧ (katTxt es).length ≤ l.length := by
  obtain ⟨hk, _, t, h1, h2, h3, h4⟩ := readF_least h
  refine ⟨hk, ?_⟩
  rw [katTxt, if_pos hk, ← h2, treeOf_post h1]
  exact h4

set_option maxRecDepth 100000 in
set_option maxHeartbeats 1600000 in
theorem law_FnReadKat (v : Value) (cs : List Int) (w : World) (hx : SlB 0 w.heap.size w v cs) (hE : MapT w) :
    Calls Tryd.prog 3 #[v] w fun e w' => e = .returned (.bool true) ∧ Below w.heap.size w w' := by
  have HX := Lib.hid hx
  obtain ⟨⟨a, cap, rfl, hcap, hcm, _⟩, _⟩ := hx
  unfold maxLen at hcm
  by_cases hm : cs.length ≤ 1048576
  · have HE := Lib.hid hE
    clear hE
    go_enter Tryd.func3, Tryd.ntmps3
    go_wp2_with fail
    refine (DrawReadKat_any _ cs _ HX.out).mono ?_
    rintro e w1 ⟨s, rfl, hsz, hb⟩
    obtain ⟨l, rfl⟩ : ∃ l : List UInt8, s = ⟨l.toArray⟩ := ⟨s.data.toList, by cases s; simp⟩
    have hl : l.length ≤ 500 := by have h : l.toArray.size ≤ 500 := hsz; simpa using h
    clear hsz
    have HB := Lib.hid hb
    clear hb
    go_wp2_with fail
    refine (impl_ReadKat_tot l _ rfl _ (HE.out.below HB.out) (by omega)).mono ?_
    rintro e w2 ⟨v1, b1, rfl, k1, o1, hb⟩
    have hs2 := hb.size
    have O1 := Lib.hid o1.sl
    replace HB := Lib.hid (HB.out.trans (hb.mono HB.out.size))
    have K1 := Lib.hid k1
    clear hb o1 k1
    go_wp2_with fail
    refine (spec_ReadKat_tot l _ rfl _ (by omega)).mono ?_
    rintro e w3 ⟨v2, b2, rfl, k2, o2, hb⟩
    have hs3 := hb.size
    have O2 := Lib.hid o2.sl
    replace O1 := Lib.hid (O1.out.below hb (by omega))
    replace HB := Lib.hid (HB.out.trans (hb.mono HB.out.size))
    have K2 := Lib.hid k2
    clear hb o2 k2
    cases hr : readF l with
    | none =>
      have HK : Hid (b1 = false ∧ b2 = false) := Lib.hid ⟨by rw [K1.out, hr]; rfl, by rw [K2.out, hr]; rfl⟩
      clear K1 K2
      obtain ⟨rfl, rfl⟩ := HK.out
      clear HK
      rw [hr] at O1 O2
      obtain ⟨a1, c1, rfl, _, _⟩ := Sl.shape O1.out
      go_wp2_with fail
      refine (sameInts_same _ _ _ _ _ _ [] _ O1.out O2.out (by simp)).mono ?_
      rintro e w4 ⟨rfl, hb⟩
      replace HB := Lib.hid (HB.out.trans (hb.mono HB.out.size))
      clear hb hr
      go_wp2_with fail
      refine (alive_any _).mono ?_
      rintro e w5 ⟨rfl, rfl⟩
      go_wp2
      go_ret
      exact ⟨rfl, HB.out⟩
    | some es =>
      have HK : Hid (b1 = true ∧ b2 = true) := Lib.hid ⟨by rw [K1.out, hr]; rfl, by rw [K2.out, hr]; rfl⟩
      clear K1 K2
      obtain ⟨rfl, rfl⟩ := HK.out
      clear HK
      have HR := Lib.hid hr
      rw [hr] at O1 O2
      simp only [Option.getD_some] at O1 O2
      have HKV := Lib.hid (katTxt_least hr)
      have hes : es.length ≤ 40 := by
        have h := HKV.out.1
        simp only [katV, Bool.and_eq_true, decide_eq_true_eq] at h
        omega
      clear hr
      go_wp2_with fail
      refine (sameInts_same _ _ _ _ _ _ es _ O1.out O2.out (by omega)).mono ?_
      rintro e w4 ⟨rfl, hb⟩
      have hs4 := hb.size
      replace O1 := Lib.hid (O1.out.below hb (by omega))
      replace HB := Lib.hid (HB.out.trans (hb.mono HB.out.size))
      clear hb
      go_wp2_with fail
      refine (impl_ReadKat_tot (40 :: (l ++ [41])) _ (by show ByteArray.mk [40].toArray ++ ByteArray.mk l.toArray ++ ByteArray.mk [41].toArray = _; rw [ByteArray.mk_append_mk, ByteArray.mk_append_mk]; simp) _ (HE.out.below HB.out) (by simp; omega)).mono ?_
      rintro e w5 ⟨v3, b3, rfl, k3, o3, hb⟩
      have hs5 := hb.size
      replace O1 := Lib.hid (O1.out.below hb (by omega))
      replace HB := Lib.hid (HB.out.trans (hb.mono HB.out.size))
      have K3 := Lib.hid k3
      have O3 := Lib.hid o3.sl
      clear hb o3 k3
      go_wp2_with fail
      refine (impl_KatValid _ _ _ es _ O1.out (by omega)).mono ?_
      rintro e w6 ⟨rfl, rfl⟩
      rw [HKV.out.1]
      go_wp2_with fail
      refine (impl_KatText_any _ es _ (O1.out.rd (by omega)) (by omega) (HE.out.below HB.out)).mono ?_
      rintro e w6 ⟨rfl, hb⟩
      have hs6 := hb.size
      replace O3 := Lib.hid (O3.out.below hb (by omega))
      replace O1 := Lib.hid (O1.out.below hb (by omega))
      replace HB := Lib.hid (HB.out.trans (hb.mono HB.out.size))
      clear hb
      have hle := HKV.out.2
      obtain ⟨t, ht⟩ : ∃ t, t = katTxt es := ⟨_, rfl⟩
      rw [← ht] at hle ⊢
      clear ht HKV
      by_cases h7 : l.length ≤ 197
      · have h8 : decide (197 < (l.length : Int)) = false := decide_eq_false (by omega)
        have HK : Hid (b3 = true) := Lib.hid (by rw [K3.out, readF_brackets HR.out h7]; rfl)
        rw [readF_brackets HR.out h7] at O3
        simp only [Option.getD_some] at O3
        clear K3
        obtain rfl := HK.out
        clear HK
        go_wp2_with fail
        refine (sameInts_same _ _ _ _ _ _ es _ O3.out O1.out (by omega)).mono ?_
        rintro e w7 ⟨rfl, hb⟩
        replace HB := Lib.hid (HB.out.trans (hb.mono HB.out.size))
        clear hb
        go_wp2
        go_ret
        exact ⟨rfl, HB.out⟩
      · have h8 : decide (197 < (l.length : Int)) = true := decide_eq_true (by omega)
        go_wp2
        go_ret
        exact ⟨rfl, HB.out⟩
  · go_enter Tryd.func3, Tryd.ntmps3
    go_wp2
    go_ret
    exact ⟨rfl, Below.refl _ _⟩
end Go.Proofs.YtacgefknhncgfaaDoor
