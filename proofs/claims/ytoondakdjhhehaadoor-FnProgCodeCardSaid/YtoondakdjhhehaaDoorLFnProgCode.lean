/-
  Texts of walks and plain lemmas for this seat; no condition.
-/
import Derived.Test.YtoondakdjhhehaaDoorGZE
import Derived.Test.YtoondakdjhhehaaDoorCShY
import Derived.Test.YtoondakdjhhehaaDoorSCert
import Derived.Test.YtoondakdjhhehaaDoorSCode
import Derived.Test.YtoondakdjhhehaaDoorGZF
import Derived.Test.YtoondakdjhhehaaDoorAliveT
import Derived.Test.YtoondakdjhhehaaDoorFrameT
import Derived.Test.YtoondakdjhhehaaDoorCRunI
import Derived.Test.YtoondakdjhhehaaDoorSCVal
namespace Go.Proofs.YtoondakdjhhehaaDoor
open Go.RowKit
set_option linter.unusedVariables false

theorem progC_is {p : List Int} {c : List In3} (h : progC p = some c) : codeV c = true ∧ c.length ≤ 40 ∧ c = (treeP p).code 0 ++ [endI] := by
  unfold progC at h
  split at h
  · rename_i hc
    simp only [Bool.and_eq_true, decide_eq_true_eq] at hc
    obtain ⟨T, h1, h2, h3, h4⟩ := progV_tree hc.1
    have ht := treeP_of h3
    rw [ht] at h ⊢
    injection h with h
    subst h
    have hv := codeV_tree h1 h4
    exact ⟨hv, (codeV_iff.1 hv).most, rfl⟩
  · cases h

set_option maxRecDepth 100000 in
set_option maxHeartbeats 3200000 in
theorem law_FnProgCode (v1 : Value) (bs1 : List Int) (v2 : Value) (bs2 : List Int) (w : World) (hx1 : SlB 0 w.heap.size w v1 bs1) (hx2 : SlB 0 w.heap.size w v2 bs2) (hE : TabT w) :
    Calls Tryd.prog 6 #[v1, v2] w fun e w' => e = .returned (.bool true) ∧ Below w.heap.size w w' := by
  have HX1 := Lib.hid hx1
  have HX2 := Lib.hid hx2
  obtain ⟨⟨a1, cap1, rfl, _, hcm1, _⟩, _⟩ := hx1
  obtain ⟨⟨a2, cap2, rfl, _, hcm2, _⟩, _⟩ := hx2
  unfold maxLen at hcm1 hcm2
  by_cases hm1 : bs1.length ≤ 1048576
  · by_cases hm2 : bs2.length ≤ 1048576
    · have d1 : decide ((1048576 : Int) < (bs1.length : Int)) = false := decide_eq_false (by omega)
      have d2 : decide ((1048576 : Int) < (bs2.length : Int)) = false := decide_eq_false (by omega)
      have HE := Lib.hid hE
      clear hE
      go_enter Tryd.func6, Tryd.ntmps6
      go_wp2_with fail
      refine (DrawProgCode_any _ bs1 _ HX1.out).mono ?_
      rintro e w1 ⟨_, rfl, ps, hoc, hcl, hb⟩
      have hs1 := hb.size
      have HB := Lib.hid hb
      have HP := Lib.hid hoc.sl
      obtain ⟨ca, cc, rfl, _, _⟩ := Sl.shape hoc.sl
      clear hoc hb HX1
      have HPI := Lib.hid (impl_ProgCode _ _ _ ps w1 HP.out (Nat.le_refl _) (by omega))
      have HPS := Lib.hid fun (w' : World) (h : SlI w.heap.size w1.heap.size w' (.slice ca ps.length cc) ps) (hh : w1.heap.size ≤ w'.heap.size) => spec_ProgCode _ _ _ ps w' h hh (by omega)
      have HIS := Lib.hid (fun (c : List In3) (h : progC ps = some c) => progC_is h)
      have HME := Lib.hid (fun (M : Mo) (e : List Int) (s : Nat) (h1 : progK ps = some e) (h2 : certB M = true) (h3 : s < M.n.toNat) => machine_ends h1 h2 h3)
      obtain ⟨r, hr⟩ : ∃ r, r = progC ps := ⟨_, rfl⟩
      rw [← hr] at HPI HPS HIS
      clear hr
      cases r with
      | none =>
        clear HIS
        go_wp2_with fail
        refine HPI.out.mono ?_
        rintro e w2 ⟨va, _, rfl, rfl, ho2, hb⟩
        have hs2 := hb.size
        obtain ⟨za, zc, rfl, _, _⟩ := Sl.shape ho2.sl
        replace HB := Lib.hid (HB.out.trans (hb.mono hs1))
        have HPC := Lib.hid (HPS.out w2 (HP.out.below hb (Nat.le_refl _)) hs2)
        have HO2 := Lib.hid ho2.sl
        clear hb ho2 HPS HPI
        go_wp2_with fail
        refine HPC.out.mono ?_
        rintro e w3 ⟨va, _, rfl, rfl, ho3, hb⟩
        have hs3 := hb.size
        obtain ⟨ya, yc, rfl, _, _⟩ := Sl.shape ho3.sl
        replace HB := Lib.hid (HB.out.trans (hb.mono (by omega)))
        have HSA := Lib.hid (sameCode_any _ _ _ _ _ _ [] w3 (HO2.out.below hb (Nat.le_refl _)) ho3.sl (by simp))
        clear hb ho3 HPC HO2
        go_wp2_with fail
        refine HSA.out.mono ?_
        rintro e w4 ⟨rfl, hb⟩
        replace HB := Lib.hid (HB.out.trans (hb.mono (by omega)))
        clear hb HSA
        go_wp2_with fail
        refine (alive_any _).mono ?_
        rintro e _ ⟨rfl, rfl⟩
        go_wp2
        go_ret
        exact ⟨rfl, HB.out⟩
      | some c =>
        obtain ⟨i1, i2, i3⟩ := HIS.out _ rfl
        have HCV := Lib.hid i1
        have HCE := Lib.hid i3
        clear i1 i3 HIS
        go_wp2_with fail
        refine HPI.out.mono ?_
        rintro e w2 ⟨va, _, rfl, rfl, ho2, hb⟩
        have hs2 := hb.size
        have HC := Lib.hid (show SlC _ _ _ _ c from ho2.sl)
        obtain ⟨za, zc, rfl, _, _⟩ := HC.out.shape
        replace HB := Lib.hid (HB.out.trans (hb.mono hs1))
        replace HP := Lib.hid (HP.out.below hb (Nat.le_refl _))
        have HPC := Lib.hid (HPS.out w2 HP.out hs2)
        clear hb ho2 HPS HPI
        go_wp2_with fail
        refine HPC.out.mono ?_
        rintro e w3 ⟨va, _, rfl, rfl, ho3, hb⟩
        have hs3 := hb.size
        have HC3 := Lib.hid (show SlC _ _ _ _ c from ho3.sl)
        obtain ⟨ya, yc, rfl, _, _⟩ := HC3.out.shape
        replace HB := Lib.hid (HB.out.trans (hb.mono (by omega)))
        replace HP := Lib.hid (HP.out.below hb (by omega))
        replace HC := Lib.hid (HC.out.below hb (Nat.le_refl _))
        have HSA := Lib.hid (sameCode_any _ _ _ _ _ _ c w3 HC.out HC3.out (by omega))
        clear hb ho3 HPC HC3
        go_wp2_with fail
        refine HSA.out.mono ?_
        rintro e w4 ⟨rfl, hb⟩
        have hs4 := hb.size
        replace HB := Lib.hid (HB.out.trans (hb.mono (by omega)))
        replace HP := Lib.hid (HP.out.below hb (by omega))
        replace HC := Lib.hid (HC.out.below hb (by omega))
        clear hb HSA
        go_wp2_with fail
        refine (DrawProgEnds_any _ bs2 w4 (SlB.wide (SlB.below HX2.out HB.out (Nat.le_refl _)) (by omega))).mono ?_
        rintro e w5 ⟨⟨n', p, q, acts⟩, va, vc, c2, st2, rfl, hM, hC2, _, hb⟩
        have hs5 := hb.size
        obtain ⟨hA, ha3, ha5, hn1, hn5⟩ := hM
        simp only at hA ha3 ha5 hn1 hn5
        obtain ⟨n, rfl⟩ : ∃ n : Nat, n' = n := ⟨n'.toNat, by omega⟩
        obtain ⟨sa, sc, rfl, _, _⟩ := hA.shape
        obtain ⟨xa, xc, rfl, _, _⟩ := hC2.shape
        obtain ⟨w6, hw6⟩ : ∃ w6, w6 = w5.alloc (.cells #[.int .i64 (n : Int), .int .i64 p, .int .i64 q, .slice sa acts.length sc] 25) := ⟨_, rfl⟩
        obtain ⟨hb6, K_, hs6⟩ := box_facts2 hw6
        obtain ⟨gM, hgM⟩ : ∃ gM, gM = w5.heap.size := ⟨_, rfl⟩
        have HA := Lib.hid (hA.below hb6 (Nat.le_refl _))
        replace HC := Lib.hid ((HC.out.below hb (by omega)).below hb6 (by omega))
        replace HP := Lib.hid ((HP.out.below hb (by omega)).below hb6 (by omega))
        replace HB := Lib.hid ((HB.out.trans (hb.mono (by omega))).trans (hb6.mono (by omega)))
        have HM5 : Hid (∀ x ∈ acts, x.length ≤ 1048576) := Lib.hid fun x hx => by have := ha5 x hx; omega
        rw [← hgM] at K_
        have KM := Lib.hid K_
        have hgl := K_.lt
        have HW := Lib.hid hw6
        have HGM := Lib.hid hgM
        have HT := Lib.hid (HE.out.below HB.out)
        clear hb hA hC2 hb6 K_ hw6 hgM ha5 HX2
        go_upto_region 11 with (rw [← HW.out])
        try rw [← HW.out]
        rw [← HGM.out]
        have hs46 : w4.heap.size ≤ w6.heap.size := by omega
        have hgM5 : w5.heap.size ≤ gM := by rw [HGM.out]; exact Nat.le_refl _
        clear HW HGM
        go_wp2_with fail
        refine (impl_ProgKat _ _ _ ps w6 HP.out (by omega) (by omega)).mono ?_
        rintro e w7 h
        obtain ⟨vk, _, rfl, rfl, _, hb⟩ := h
        have hs7 := hb.size
        replace HC := Lib.hid (HC.out.below hb (by omega))
        replace HP := Lib.hid (HP.out.below hb (by omega))
        replace HA := Lib.hid (HA.out.below hb (by omega))
        replace KM := Lib.hid (KM.out.below hb hgl)
        replace HT := Lib.hid (HT.out.below hb)
        replace HB := Lib.hid (HB.out.trans (hb.mono (by omega)))
        clear hb hgl
        have hgl := KM.out.lt
        have HMV : Hid (∀ s : Nat, (progK ps).isSome = true → certB ⟨n, p, q, acts⟩ = true → s < n → (crV ⟨n, p, q, acts⟩ c s).1 = endV ⟨n, p, q, acts⟩ ps s) := Lib.hid fun s h1 h2 h3 => by
          obtain ⟨e, he⟩ := Option.isSome_iff_exists.1 h1
          rw [HCE.out]
          exact HME.out _ e s he h2 (by simpa using h3)
        obtain ⟨kb, hkb⟩ : ∃ kb, kb = (progK ps).isSome := ⟨_, rfl⟩
        rw [← hkb] at HMV ⊢
        obtain ⟨cb, hcb⟩ : ∃ cb, cb = certB ⟨n, p, q, acts⟩ := ⟨_, rfl⟩
        have HCB : Hid (∀ w', SlLL w4.heap.size w5.heap.size w' (.slice sa acts.length sc) acts → w5.heap.size ≤ w'.heap.size → Calls Tryd.prog 31 #[aggMo ⟨n, p, q, acts⟩ (.slice sa acts.length sc)] w' fun e w'' => e = .returned (.bool cb) ∧ Below w'.heap.size w' w'') := Lib.hid fun w' h1 h2 => by
          rw [hcb]
          exact spec_Certain _ _ ⟨n, p, q, acts⟩ _ w' h1 h2 (by simp only; omega) HM5.out
        rw [← hcb] at HMV
        clear hkb hcb HCE HME
        go_wp2
        go_loopw [15] (fun sv wr => ∃ s : Nat, sv = .int .i64 s ∧ s ≤ n ∧ Hid (Below w7.heap.size w7 wr)) (fun sv _ => n - (intOf sv).toNat)
        case atStart => exact ⟨0, rfl, by omega, Lib.hid (Below.refl _ _)⟩
        case round =>
          obtain ⟨s, rfl, hsn, HBe⟩ := hrel
          obtain ⟨wo, rfl⟩ : ∃ x_, x_ = wr := ⟨_, rfl⟩
          have hsr := HBe.out.size
          have KR := Lib.hid (KM.out.below HBe.out hgl)
          have k0 := KR.out.cell 0
          have hgr := KR.out.lt
          have HV := Lib.hid fun (w' : World) (hb : Below w7.heap.size w7 w') => impl_CodeValid _ _ _ c w' (HC.out.below hb (by omega)) (by have := hb.size; omega) (by omega)
          by_cases hlt : s < n
          · have i1 : (s : Int) < (n : Int) := by omega
            have i1d : decide ((s : Int) < (n : Int)) = true := decide_eq_true i1
            cases kb with
            | false =>
              go_wp2_with fail
              refine (HV.out wo HBe.out).mono ?_
              rintro e w8 ⟨rfl, hb⟩
              have HB8 := Lib.hid ((HB.out.trans (HBe.out.mono (by omega))).trans (hb.mono (by omega)))
              clear hb
              go_wp2
              go_ret
              exact ⟨ret_bool HCV.out, HB8.out⟩
            | true =>
              have k1 := KR.out.cell 1
              have k2 := KR.out.cell 2
              have k3 := KR.out.cell 3
              have HCC := Lib.hid (HCB.out wo (HA.out.below HBe.out (by omega)) (by omega))
              go_wp2_with fail
              refine HCC.out.mono ?_
              rintro e wa ⟨rfl, hb⟩
              clear k0 k1 k2 k3 HCC
              have hsa := hb.size
              replace HBe := Lib.hid (HBe.out.trans (hb.mono hsr))
              clear hb
              cases cb with
              | false =>
                go_wp2_with fail
                refine (HV.out wa HBe.out).mono ?_
                rintro e w8 ⟨rfl, hb⟩
                have HB8 := Lib.hid ((HB.out.trans (HBe.out.mono (by omega))).trans (hb.mono (by omega)))
                clear hb
                go_wp2
                go_ret
                exact ⟨ret_bool HCV.out, HB8.out⟩
              | true =>
                replace KR := Lib.hid (KM.out.below HBe.out hgl)
                have k0 := KR.out.cell 0
                have k1 := KR.out.cell 1
                have k2 := KR.out.cell 2
                have k3 := KR.out.cell 3
                have HI := Lib.hid (impl_CodeRun _ _ _ _ ⟨n, p, q, acts⟩ (.slice sa acts.length sc) (.slice za c.length zc) c (s : Int) wa (HT.out.below HBe.out) (HA.out.below HBe.out (by omega)) (by omega) (by simp only; omega) HM5.out (HC.out.below HBe.out (by omega)) (by omega) (by omega))
                have HR := Lib.hid (HMV.out s (by first | rfl | trivial) (by first | rfl | trivial) hlt)
                obtain ⟨R, hR⟩ : ∃ R, R = crV ⟨n, p, q, acts⟩ c (s : Int) := ⟨_, rfl⟩
                obtain ⟨E, N⟩ := R
                rw [← hR] at HI HR
                simp only at HI HR
                clear hR HMV
                go_wp2_with fail
                refine HI.out.mono ?_
                rintro e wp ⟨rfl, hb⟩
                clear k0 k1 k2 k3
                have hsp := hb.size
                replace HBe := Lib.hid (HBe.out.trans (hb.mono (by omega)))
                replace KR := Lib.hid (KM.out.below HBe.out hgl)
                have k0 := KR.out.cell 0
                have k1 := KR.out.cell 1
                have k2 := KR.out.cell 2
                have k3 := KR.out.cell 3
                have HI2 := Lib.hid (impl_ProgEnds _ _ _ _ ⟨n, p, q, acts⟩ (.slice sa acts.length sc) (.slice ca ps.length cc) ps (s : Int) wp (HT.out.below HBe.out) (HA.out.below HBe.out (by omega)) (by omega) (by simp only; omega) HM5.out (HP.out.below HBe.out (by omega)) (by omega) (by omega))
                rw [← HR.out] at HI2
                have d4 : (E != E) = false := by simp
                clear hb HR HI
                go_wp2_with fail
                refine HI2.out.mono ?_
                rintro e wq ⟨rfl, hb⟩
                clear k0 k1 k2 k3
                replace HBe := Lib.hid (HBe.out.trans (hb.mono (by omega)))
                clear hb
                go_wp2
                go_roundw
                case rel => exact ⟨s + 1, by go_num, by omega, HBe⟩
                case measure => simp [intOf]; omega
          · obtain rfl : s = n := by omega
            have i1d : decide ((s : Int) < (s : Int)) = false := by simp
            go_wp2_with fail
            refine (HV.out wo HBe.out).mono ?_
            rintro e w8 ⟨rfl, hb⟩
            have HB8 := Lib.hid ((HB.out.trans (HBe.out.mono (by omega))).trans (hb.mono (by omega)))
            clear hb
            go_wp2
            go_ret
            exact ⟨ret_bool HCV.out, HB8.out⟩
    · go_enter Tryd.func6, Tryd.ntmps6
      go_wp2
      go_ret
      exact ⟨rfl, Below.refl _ _⟩
  · go_enter Tryd.func6, Tryd.ntmps6
    go_wp2
    go_ret
    exact ⟨rfl, Below.refl _ _⟩
end Go.Proofs.YtoondakdjhhehaaDoor
