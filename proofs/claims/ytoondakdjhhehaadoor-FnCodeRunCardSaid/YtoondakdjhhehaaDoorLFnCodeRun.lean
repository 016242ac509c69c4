/-
  Texts of walks and plain lemmas for this seat; no condition.
-/
import Derived.Test.YtoondakdjhhehaaDoorDCRun
import Derived.Test.YtoondakdjhhehaaDoorSCRun
import Derived.Test.YtoondakdjhhehaaDoorAliveT
namespace Go.Proofs.YtoondakdjhhehaaDoor
open Go.RowKit

set_option maxRecDepth 100000 in
set_option maxHeartbeats 1600000 in
theorem law_FnCodeRun (v : Value) (bs : List Int) (w : World) (hx : SlB 0 w.heap.size w v bs) (hE : TabT w) :
    Calls Tryd.prog 3 #[v] w fun e w' => e = .returned (.bool true) ∧ Below w.heap.size w w' := by
  have HX := Lib.hid hx
  obtain ⟨⟨a, cap, rfl, hcap, hcm, _⟩, _⟩ := hx
  unfold maxLen at hcm
  by_cases hm : bs.length ≤ 1048576
  · have HE := Lib.hid hE
    clear hE
    go_enter Tryd.func3, Tryd.ntmps3
    go_wp2_with fail
    refine (DrawCodeRun_any _ bs _ HX.out).mono ?_
    rintro e w1 ⟨⟨n', p, q, acts⟩, va, vc, cs, st, rfl, hM, hC, hcl, hb⟩
    have hs1 := hb.size
    obtain ⟨hA, ha3, ha5, hn1, hn5⟩ := hM
    simp only at hA ha3 ha5 hn1 hn5
    obtain ⟨n, rfl⟩ : ∃ n : Nat, n' = n := ⟨n'.toNat, by omega⟩
    obtain ⟨sa, sc, rfl, _, _⟩ := hA.shape
    obtain ⟨ca, cc, rfl, _, _⟩ := hC.shape
    obtain ⟨w2, hw2⟩ : ∃ w2, w2 = w1.alloc (.cells #[.int .i64 (n : Int), .int .i64 p, .int .i64 q, .slice sa acts.length sc] 25) := ⟨_, rfl⟩
    obtain ⟨hb2, K_, hs2⟩ := box_facts2 hw2
    obtain ⟨gM, hgM⟩ : ∃ gM, gM = w1.heap.size := ⟨_, rfl⟩
    have HA := Lib.hid (hA.below hb2 (Nat.le_refl _))
    have HC := Lib.hid (hC.below hb2 (Nat.le_refl _))
    have HB := Lib.hid (hb.trans (hb2.mono hs1))
    have HM5 : Hid (∀ x ∈ acts, x.length ≤ 1048576) := Lib.hid fun x hx => by have := ha5 x hx; omega
    rw [← hgM] at K_
    have KM := Lib.hid K_
    have hgl := K_.lt
    have HW := Lib.hid hw2
    have HGM := Lib.hid hgM
    have hha : w1.heap.size ≤ w2.heap.size := by omega
    have hTe := HE.out.below HB.out
    have HI := Lib.hid (impl_CodeRun _ _ _ _ ⟨n, p, q, acts⟩ _ _ cs st w2 hTe HA.out hha (by simp only; omega) HM5.out HC.out hha (by omega))
    have HT := Lib.hid hTe
    have HEn := Lib.hid (@crV_end ⟨n, p, q, acts⟩ cs st)
    have HNe := Lib.hid (@crV_neg ⟨n, p, q, acts⟩ cs st)
    obtain ⟨R, hR⟩ : ∃ R, R = crV ⟨n, p, q, acts⟩ cs st := ⟨_, rfl⟩
    have HSp : Hid (∀ w', SlLL w.heap.size w1.heap.size w' (.slice sa acts.length sc) acts → SlC w.heap.size w1.heap.size w' (.slice ca cs.length cc) cs → w1.heap.size ≤ w'.heap.size → Calls Tryd.prog 10 #[aggMo ⟨n, p, q, acts⟩ (.slice sa acts.length sc), .slice ca cs.length cc, .int .i64 st] w' fun e w'' => e = .returned (.tuple #[.int .i64 R.1, .int .i64 R.2]) ∧ Below w'.heap.size w' w'') := Lib.hid (fun w' h1 h2 h3 => by
      rw [hR]
      exact spec_CodeRun _ _ _ _ ⟨n, p, q, acts⟩ _ _ cs st w' h1 h3 (by simp only; omega) HM5.out h2 h3 (by omega))
    rw [← hR] at HI HEn HNe
    clear hb hA hC hb2 K_ hw2 hgM hTe hR ha5
    obtain ⟨rE, rN⟩ := R
    have k0 := KM.out.cell 0
    have k1 := KM.out.cell 1
    have k2 := KM.out.cell 2
    have k3 := KM.out.cell 3
    go_upto_region 4 with (rw [← HW.out])
    try rw [← HW.out]
    rw [← HGM.out]
    clear HW HGM
    go_wp2_with fail
    refine HI.out.mono ?_
    rintro e w3 ⟨rfl, hb⟩
    clear k0 k1 k2 k3
    have hs3 := hb.size
    replace KM := Lib.hid (KM.out.below hb hgl)
    replace HA := Lib.hid (HA.out.below hb hha)
    replace HC := Lib.hid (HC.out.below hb hha)
    replace HT := Lib.hid (HT.out.below hb)
    replace HB := Lib.hid (HB.out.trans (hb.mono (by omega)))
    have hgl3 := KM.out.lt
    have k0 := KM.out.cell 0
    have k1 := KM.out.cell 1
    have k2 := KM.out.cell 2
    have k3 := KM.out.cell 3
    clear hb
    go_wp2_with fail
    refine (HSp.out w3 HA.out HC.out (by omega)).mono ?_
    rintro e w4 ⟨rfl, hb⟩
    clear k0 k1 k2 k3 HSp
    have hs4 := hb.size
    replace KM := Lib.hid (KM.out.below hb hgl3)
    replace HA := Lib.hid (HA.out.below hb (by omega))
    replace HT := Lib.hid (HT.out.below hb)
    replace HB := Lib.hid (HB.out.trans (hb.mono (by omega)))
    have hgl4 := KM.out.lt
    clear hb
    by_cases hneg : rE < 0
    · have he := HNe.out hneg
      simp only [Prod.mk.injEq] at he
      obtain ⟨rfl, rfl⟩ := he
      clear hneg HNe HEn
      go_wp2_with fail
      refine (alive_any _).mono ?_
      rintro e w5 ⟨rfl, rfl⟩
      go_wp2
      go_ret
      exact ⟨rfl, HB.out⟩
    · obtain ⟨r1, r2, r3, r4, r5, r6⟩ := HEn.out (by simpa using hneg)
      obtain ⟨r, rfl⟩ : ∃ r : Nat, rE = r := ⟨rE.toNat, by omega⟩
      obtain ⟨k, rfl⟩ : ∃ k : Nat, rN = k := ⟨rN.toNat, by omega⟩
      have hN2 : n * cs.length ≤ 300 := Nat.le_trans (Nat.mul_le_mul (show n ≤ 5 by omega) hcl) (by decide)
      obtain ⟨N, hN⟩ : ∃ N : Nat, N = n * cs.length := ⟨_, rfl⟩
      have hmul : (n : Int) * (cs.length : Int) = (N : Int) := by rw [hN]; push_cast; rfl
      rw [hmul] at r4
      rw [← hN] at hN2
      have hkN : k ≤ N := by omega
      have hrn : r < n := by omega
      have hstay := Lib.hid (crV_stay (M := ⟨n, p, q, acts⟩) (st := (r : Int)) r5 (by omega) (by simp only; omega))
      obtain ⟨w5, hw5⟩ : ∃ w5, w5 = w4.alloc (.cells #[.int .i64 3, .int .i64 0, .int .i64 0] 33) := ⟨_, rfl⟩
      obtain ⟨hb5, _, hs5⟩ := box_facts2 hw5
      have HL : Hid (SlC w4.heap.size (w4.heap.size + 1) w5 (.slice (some ⟨w4.heap.size, 0, none⟩) 1 1) [endI]) := Lib.hid (by
        rw [hw5]
        exact (Own.lit 3 33 w4 (inss [endI]) 1 (by omega) rfl).sl)
      have j0 := KM.out.cell 0
      have j1 := KM.out.cell 1
      have j2 := KM.out.cell 2
      have j3 := KM.out.cell 3
      replace KM := Lib.hid (KM.out.below hb5 hgl4)
      replace HA := Lib.hid (HA.out.below hb5 (by omega))
      replace HT := Lib.hid (HT.out.below hb5)
      replace HB := Lib.hid (HB.out.trans (hb5.mono (by omega)))
      have hgl5 := KM.out.lt
      have HW5 := Lib.hid hw5
      have HI5 := Lib.hid (impl_CodeRun _ _ _ _ ⟨n, p, q, acts⟩ _ _ [endI] (r : Int) w5 HT.out HA.out (by omega) (by simp only; omega) HM5.out HL.out hs5 (by simp))
      rw [hstay.out] at HI5
      clear hneg HNe HEn HI r1 r2 r4 r5 r6 hN hb5 hw5 hstay
      have k0 := KM.out.cell 0
      have k1 := KM.out.cell 1
      have k2 := KM.out.cell 2
      have k3 := KM.out.cell 3
      rw [HW5.out] at k0 k1 k2 k3
      go_wp2_with fail
      simp only [← HW5.out]
      refine HI5.out.mono ?_
      rintro e w6 ⟨rfl, hb⟩
      clear k0 k1 k2 k3 j0 j1 j2 j3
      replace KM := Lib.hid (KM.out.below hb hgl5)
      replace HB := Lib.hid (HB.out.trans (hb.mono (by omega)))
      have k0 := KM.out.cell 0
      clear hb
      go_wp2
      go_ret
      exact ⟨rfl, HB.out⟩
  · go_enter Tryd.func3, Tryd.ntmps3
    go_wp2
    go_ret
    exact ⟨rfl, Below.refl _ _⟩
end Go.Proofs.YtoondakdjhhehaaDoor
