/-
  Texts of walks and plain lemmas for this seat; no condition.
-/
import Derived.Test.YtoondakdjhhehaaDoorGZC
import Derived.Test.YtoondakdjhhehaaDoorDCRun
import Derived.Test.YtoondakdjhhehaaDoorAliveT
import Derived.Test.YtoondakdjhhehaaDoorFrameT
import Derived.Test.YtoondakdjhhehaaDoorCRunI
namespace Go.Proofs.YtoondakdjhhehaaDoor
open Go.RowKit
set_option linter.unusedVariables false

theorem short_codeV {c : List In3} (h : codeV c = true) : codeV (shortV c) = true := by
  rw [shortV, if_pos h]
  exact codeV_iff.2 (short_code (codeV_iff.1 h))
theorem short_lenV {c : List In3} : (shortV c).length ≤ c.length := by
  unfold shortV
  split
  · exact short_len
  · simp
theorem short_sameV {c : List In3} (h : codeV c = true) : shortV (shortV c) = shortV c := by
  have h2 := short_codeV h
  have e : shortV c = shortC c := by rw [shortV, if_pos h]
  rw [e] at h2 ⊢
  rw [shortV, if_pos h2]
  exact short_short (codeV_iff.1 h)
theorem short_rchV {c : List In3} (h : codeV c = true) (j : Nat) (hj : j < (rchL (shortV c)).length) : (rchL (shortV c))[j] = true := by
  have h2 : j < (shortV c).length := by rwa [rchL_length] at hj
  rw [rchL_get h2, rchB_iff]
  rw [shortV, if_pos h] at h2 ⊢
  exact cut_all (thrC_code (codeV_iff.1 h)) h2
theorem crV_short {M : Mo} {c : List In3} (h : codeV c = true) (st : Nat) (hs : (st : Int) < M.n) : (crV M (shortV c) st).1 = (crV M c st).1 ∧ (crV M (shortV c) st).2 ≤ (crV M c st).2 := by
  have h2 := short_codeV h
  unfold crV
  rw [h2, h]
  cases hM : certB M with
  | false => simp
  | true =>
    have hi : inB (st : Int) 0 (M.n - 1) = true := by simp [inB]; omega
    rw [hi]
    simp only [Bool.and_self, if_true]
    rw [shortV, if_pos h]
    exact short_run (codeV_iff.1 h) (machM_in hM) (by omega)

set_option maxRecDepth 100000 in
set_option maxHeartbeats 3200000 in
theorem law_FnCodeShort (v1 : Value) (bs1 : List Int) (v2 : Value) (bs2 : List Int) (w : World) (hx1 : SlB 0 w.heap.size w v1 bs1) (hx2 : SlB 0 w.heap.size w v2 bs2) (hE : TabT w) :
    Calls Tryd.prog 4 #[v1, v2] w fun e w' => e = .returned (.bool true) ∧ Below w.heap.size w w' := by
  have HX1 := Lib.hid hx1
  have HX2 := Lib.hid hx2
  obtain ⟨⟨a1, cap1, rfl, _, hcm1, _⟩, _⟩ := hx1
  obtain ⟨⟨a2, cap2, rfl, _, hcm2, _⟩, _⟩ := hx2
  unfold maxLen at hcm1 hcm2
  by_cases hm1 : bs1.length ≤ 1048576
  · by_cases hm2 : bs2.length ≤ 1048576
    · have d1 : decide ((1048576 : Int) < (bs1.length : Int)) = false := decide_eq_false (by omega)
      have d2 : decide ((1048576 : Int) < (bs2.length : Int)) = false := decide_eq_false (by omega)
      have HE := Lib.hid hE
      clear hE
      go_enter Tryd.func4, Tryd.ntmps4
      go_wp2_with fail
      refine (DrawCodeShort_any _ bs1 _ HX1.out).mono ?_
      rintro e w1 ⟨_, rfl, cs, hoc, hcl, hb⟩
      have hs1 := hb.size
      have HB := Lib.hid hb
      have HC := Lib.hid hoc.sl
      obtain ⟨ca, cc, rfl, _, _⟩ := Sl.shape hoc.sl
      clear hoc hb HX1
      go_wp2_with fail
      refine (impl_CodeShort _ _ _ cs w1 HC.out (Nat.le_refl _) (by omega)).mono ?_
      rintro e w2 ⟨_, rfl, zs, hzs, hoz, hb⟩
      have hs2 := hb.size
      have HZ := Lib.hid hoz.sl
      obtain ⟨za, zc, rfl, _, _⟩ := Sl.shape hoz.sl
      replace HB := Lib.hid (HB.out.trans (hb.mono hs1))
      replace HC := Lib.hid (HC.out.below hb (Nat.le_refl _))
      have HZS := Lib.hid hzs
      have hzl : zs.length ≤ cs.length := by rw [hzs]; exact short_lenV
      clear hzs hoz hb
      go_wp2_with fail
      refine (spec_CodeShort _ _ _ cs w2 HC.out (by omega) (by omega)).mono ?_
      rintro e w3 ⟨_, rfl, zt, hzt, hoz, hb⟩
      have hs3 := hb.size
      have HT := Lib.hid hoz.sl
      obtain ⟨ya, yc, rfl, _, _⟩ := Sl.shape hoz.sl
      replace HB := Lib.hid (HB.out.trans (hb.mono (by omega)))
      replace HC := Lib.hid (HC.out.below hb (by omega))
      replace HZ := Lib.hid (HZ.out.below hb (by omega))
      obtain rfl : zt = zs := by rw [hzt, HZS.out]
      clear hzt hoz hb
      go_wp2_with fail
      refine (sameCode_any _ _ _ _ _ _ zt w3 HZ.out HT.out (by omega)).mono ?_
      rintro e w3' ⟨rfl, hb⟩
      have hs3' := hb.size
      replace HB := Lib.hid (HB.out.trans (hb.mono (by omega)))
      replace HC := Lib.hid (HC.out.below hb (by omega))
      replace HZ := Lib.hid (HZ.out.below hb (by omega))
      clear HT hb
      go_wp2_with fail
      refine (spec_CodeValid _ _ _ cs w3' HC.out (by omega) (by omega)).mono ?_
      rintro e w4 ⟨rfl, hb⟩
      have hs4 := hb.size
      replace HB := Lib.hid (HB.out.trans (hb.mono (by omega)))
      replace HC := Lib.hid (HC.out.below hb (by omega))
      replace HZ := Lib.hid (HZ.out.below hb (by omega))
      clear hb
      cases hv : codeV cs with
      | false =>
        have hz0 : zt.length = 0 := by rw [HZS.out, shortV, hv]; rfl
        have hz1 : ((zt.length : Int) == 0) = true := by rw [hz0]; rfl
        clear hv
        go_wp2_with fail
        refine (alive_any _).mono ?_
        rintro e _ ⟨rfl, rfl⟩
        go_wp2
        go_ret
        exact ⟨rfl, HB.out⟩
      | true =>
        have HZV : Hid (codeV zt = true) := Lib.hid (by rw [HZS.out]; exact short_codeV hv)
        have HZZ : Hid (shortV zt = zt) := Lib.hid (by rw [HZS.out]; exact short_sameV hv)
        have HZR : Hid (∀ j (h : j < (rchL zt).length), (rchL zt)[j] = true) := Lib.hid (by rw [HZS.out]; exact short_rchV hv)
        have HZM : Hid (∀ (M : Mo) (st : Nat), (st : Int) < M.n → (crV M zt st).1 = (crV M cs st).1 ∧ (crV M zt st).2 ≤ (crV M cs st).2) := Lib.hid (by rw [HZS.out]; exact fun M st h => crV_short hv st h)
        clear HZS hv
        go_wp2_with fail
        refine (DrawCodeRun_any _ bs2 w4 (SlB.wide (SlB.below HX2.out HB.out (Nat.le_refl _)) (by omega))).mono ?_
        rintro e w5 ⟨⟨n', p, q, acts⟩, va, vc, c2, st2, rfl, hM, hC2, _, hb⟩
        have hs5 := hb.size
        obtain ⟨hA, ha3, ha5, hn1, hn5⟩ := hM
        simp only at hA ha3 ha5 hn1 hn5
        obtain ⟨n, rfl⟩ : ∃ n : Nat, n' = n := ⟨n'.toNat, by omega⟩
        obtain ⟨sa, sc, rfl, _, _⟩ := hA.shape
        obtain ⟨xa, xc, rfl, _, _⟩ := hC2.shape
        obtain ⟨w6, hw6⟩ : ∃ w6, w6 = w5.alloc (.cells #[.int .i64 (n : Int), .int .i64 p, .int .i64 q, .slice sa acts.length sc] 25) := ⟨_, rfl⟩
        obtain ⟨hb6, K_, hs6⟩ := box_facts2 hw6
        obtain ⟨gM, hgM⟩ : ∃ gM, gM = w5.heap.size := ⟨_, rfl⟩
        have HA := Lib.hid (hA.below hb6 (Nat.le_refl _))
        replace HC := Lib.hid ((HC.out.below hb (by omega)).below hb6 (by omega))
        replace HZ := Lib.hid ((HZ.out.below hb (by omega)).below hb6 (by omega))
        replace HB := Lib.hid ((HB.out.trans (hb.mono (by omega))).trans (hb6.mono (by omega)))
        have HM5 : Hid (∀ x ∈ acts, x.length ≤ 1048576) := Lib.hid fun x hx => by have := ha5 x hx; omega
        rw [← hgM] at K_
        have KM := Lib.hid K_
        have hgl := K_.lt
        have HW := Lib.hid hw6
        have HGM := Lib.hid hgM
        have HT := Lib.hid (HE.out.below HB.out)
        clear hb hA hC2 hb6 K_ hw6 hgM ha5 HX2
        go_wp2_with fail
        rw [← HW.out]
        rw [← HGM.out]
        have hs46 : w4.heap.size ≤ w6.heap.size := by omega
        have hgM5 : w5.heap.size ≤ gM := by rw [HGM.out]; exact Nat.le_refl _
        clear HW HGM
        go_loopw [10] (fun sv wr => ∃ s : Nat, sv = .int .i64 s ∧ s ≤ n ∧ Hid (Below w6.heap.size w6 wr)) (fun sv _ => n - (intOf sv).toNat)
        case atStart => exact ⟨0, rfl, by omega, Lib.hid (Below.refl _ _)⟩
        case round =>
          obtain ⟨s, rfl, hsn, HBe⟩ := hrel
          obtain ⟨wo, rfl⟩ : ∃ x_, x_ = wr := ⟨_, rfl⟩
          have hsr := HBe.out.size
          have KR := Lib.hid (KM.out.below HBe.out hgl)
          have k0 := KR.out.cell 0
          have hgr := KR.out.lt
          by_cases hlt : s < n
          · have i1 : (s : Int) < (n : Int) := by omega
            have i1d : decide ((s : Int) < (n : Int)) = true := decide_eq_true i1
            have k1 := KR.out.cell 1
            have k2 := KR.out.cell 2
            have k3 := KR.out.cell 3
            have HI := Lib.hid (impl_CodeRun _ _ _ _ ⟨n, p, q, acts⟩ (.slice sa acts.length sc) (.slice ca cs.length cc) cs (s : Int) wo (HT.out.below HBe.out) (HA.out.below HBe.out (by omega)) (by omega) (by simp only; omega) HM5.out (HC.out.below HBe.out (by omega)) (by omega) (by omega))
            have HR := Lib.hid (HZM.out ⟨n, p, q, acts⟩ s i1)
            obtain ⟨R, hR⟩ : ∃ R, R = crV ⟨n, p, q, acts⟩ cs (s : Int) := ⟨_, rfl⟩
            obtain ⟨E, N⟩ := R
            rw [← hR] at HI HR
            simp only at HI HR
            clear hR
            go_wp2_with fail
            refine HI.out.mono ?_
            rintro e wp ⟨rfl, hb⟩
            clear k0 k1 k2 k3
            have hsp := hb.size
            replace HBe := Lib.hid (HBe.out.trans (hb.mono hsr))
            replace KR := Lib.hid (KM.out.below HBe.out hgl)
            have k0 := KR.out.cell 0
            have k1 := KR.out.cell 1
            have k2 := KR.out.cell 2
            have k3 := KR.out.cell 3
            have HI2 := Lib.hid (impl_CodeRun _ _ _ _ ⟨n, p, q, acts⟩ (.slice sa acts.length sc) (.slice za zt.length zc) zt (s : Int) wp (HT.out.below HBe.out) (HA.out.below HBe.out (by omega)) (by omega) (by simp only; omega) HM5.out (HZ.out.below HBe.out (by omega)) (by omega) (by omega))
            obtain ⟨R, hR⟩ : ∃ R, R = crV ⟨n, p, q, acts⟩ zt (s : Int) := ⟨_, rfl⟩
            obtain ⟨E2, N2⟩ := R
            rw [← hR] at HI2 HR
            obtain ⟨hr1, hr2⟩ := HR.out
            simp only at hr1 hr2 HI2
            subst hr1
            have d3 : decide (N < N2) = false := decide_eq_false (by omega)
            have d4 : (E2 != E2) = false := by simp
            clear hb hR HR HI
            go_wp2_with fail
            refine HI2.out.mono ?_
            rintro e wq ⟨rfl, hb⟩
            clear k0 k1 k2 k3
            replace HBe := Lib.hid (HBe.out.trans (hb.mono (by omega)))
            clear hb
            go_wp2
            go_roundw
            case rel => exact ⟨s + 1, by go_num, by omega, HBe⟩
            case measure => simp [intOf]; omega
          · obtain rfl : s = n := by omega
            have i1d : decide ((s : Int) < (s : Int)) = false := by simp
            have HZ6 := Lib.hid (HZ.out.below HBe.out (by omega))
            have HB6 := Lib.hid (HB.out.trans (HBe.out.mono (by omega)))
            go_wp2_with fail
            refine (impl_CodeReached _ _ _ zt wo HZ6.out (by omega) (by omega) HZV.out).mono ?_
            rintro e w7 ⟨_, rfl, bo, oc, bs, hbs, rfl, hrb, hbo, hb⟩
            clear k0
            have hs7 := hb.size
            have HRB := Lib.hid hrb
            have hbl : bs.length = zt.length := by rw [hbs, rchL_length]
            have HBG : Hid (∀ j (h : j < bs.length), bs[j] = true) := Lib.hid fun j h => by subst hbs; exact HZR.out j h
            replace HZ6 := Lib.hid (HZ6.out.below hb (by omega))
            replace HB6 := Lib.hid (HB6.out.trans (hb.mono (by omega)))
            have HBL := Lib.hid hbl
            rw [hbl]
            clear hbs hrb hb hbl
            have hrl := HRB.out.lt
            go_wp2
            go_loop [16] (fun kv => ∃ k : Nat, kv = .int .i64 k ∧ k ≤ zt.length) (fun kv => zt.length - (intOf kv).toNat)
            case atStart => exact ⟨0, rfl, by omega⟩
            case round =>
              obtain ⟨k, rfl, hk⟩ := hrel
              by_cases hlt2 : k < zt.length
              · have i2 : (k : Int) < (zt.length : Int) := by omega
                have i2d : decide ((k : Int) < (zt.length : Int)) = true := decide_eq_true i2
                have hkb : k < bs.length := by rw [HBL.out]; exact hlt2
                have b1 := HRB.out.cell k hkb
                rw [HBG.out k hkb] at b1
                go_wp2
                go_round
                case rel => exact ⟨k + 1, by go_num, by omega⟩
                case measure => simp [intOf]; omega
              · obtain rfl : k = zt.length := by omega
                have i2d : decide ((zt.length : Int) < (zt.length : Int)) = false := by simp
                have d5 : decide ((zt.length : Int) ≤ (cs.length : Int)) = true := decide_eq_true (by omega)
                go_wp2_with fail
                refine (impl_CodeValid _ _ _ zt w7 HZ6.out (by omega) (by omega)).mono ?_
                rintro e w8 ⟨rfl, hb⟩
                rw [HZV.out]
                have hs8 := hb.size
                replace HZ6 := Lib.hid (HZ6.out.below hb (by omega))
                replace HB6 := Lib.hid (HB6.out.trans (hb.mono (by omega)))
                clear hb
                go_wp2_with fail
                refine (impl_CodeShort _ _ _ zt w8 HZ6.out (by omega) (by omega)).mono ?_
                rintro e w9 ⟨_, rfl, zu, hzu, hoz, hb⟩
                have hs9 := hb.size
                obtain rfl : zu = zt := by rw [hzu, HZZ.out]
                have HU := Lib.hid hoz.sl
                obtain ⟨ua, uc, rfl, _, _⟩ := Sl.shape hoz.sl
                replace HZ6 := Lib.hid (HZ6.out.below hb (by omega))
                replace HB6 := Lib.hid (HB6.out.trans (hb.mono (by omega)))
                clear hb hoz hzu
                go_wp2_with fail
                refine (sameCode_any _ _ _ _ _ _ zu w9 HU.out HZ6.out (by omega)).mono ?_
                rintro e w10 ⟨rfl, hb⟩
                replace HB6 := Lib.hid (HB6.out.trans (hb.mono (by omega)))
                clear hb
                go_wp2
                go_ret
                exact ⟨rfl, HB6.out⟩
    · have d2 : decide ((1048576 : Int) < (bs2.length : Int)) = true := decide_eq_true (by omega)
      have d1 : decide ((1048576 : Int) < (bs1.length : Int)) = false := decide_eq_false (by omega)
      go_enter Tryd.func4, Tryd.ntmps4
      go_wp2
      go_ret
      exact ⟨rfl, Below.refl _ _⟩
  · have d1 : decide ((1048576 : Int) < (bs1.length : Int)) = true := decide_eq_true (by omega)
    go_enter Tryd.func4, Tryd.ntmps4
    go_wp2
    go_ret
    exact ⟨rfl, Below.refl _ _⟩
end Go.Proofs.YtoondakdjhhehaaDoor
