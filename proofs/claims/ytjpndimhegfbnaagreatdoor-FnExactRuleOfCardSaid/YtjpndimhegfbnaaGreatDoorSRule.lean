/-
  Texts of walks and plain lemmas for this seat; no condition.
-/
import Derived.Test.YtjpndimhegfbnaaGreatDoorSSide
import Derived.Test.YtjpndimhegfbnaaGreatDoorIRule
import Derived.Deep.RegionHeld3
import Derived.Deep.RegionWith
namespace Go.Proofs.YtjpndimhegfbnaaGreatDoor
open Go.RowKit

theorem rule_cut : ∀ n, n < 21 → ruleT.getD n [] = sideT n true ++ 61 :: sideT n false ∧ ((sideT n true).all fun c => c.toNat != 61) = true := by decide +kernel
def ruleVs : List Value := ruleT.map fun l => .string ⟨l.toArray⟩
theorem ruleVs_get {n : Nat} (h : n < 21) : ruleVs[n]? = some (.string ⟨(ruleT.getD n []).toArray⟩) := by
  have hl : n < ruleT.length := h
  simp [ruleVs, List.getD, hl]

set_option maxRecDepth 100000 in
theorem l9Rules_any (w : World) : Calls Tryz.prog 68 #[] w fun e w' => e = .returned (.slice (some ⟨w.heap.size, 0, none⟩) 21 21) ∧ w' = w.alloc (.cells ruleVs.toArray 9) := by
  go_enter Tryz.func68, Tryz.ntmps68
  go_wp2
  go_ret
  exact ⟨rfl, rfl⟩

theorem ext_pre (a b : List UInt8) (c : UInt8) : (ByteArray.mk (a ++ c :: b).toArray).extract 0 a.length = ⟨a.toArray⟩ := by
  apply ByteArray.ext
  simp [ByteArray.data_extract]
theorem ext_suf (a b : List UInt8) (c : UInt8) : (ByteArray.mk (a ++ c :: b).toArray).extract (a.length + 1) (a ++ c :: b).length = ⟨b.toArray⟩ := by
  rw [extN]
  congr 2
  rw [show a.length + 1 = (a ++ [c]).length by simp, show a ++ c :: b = (a ++ [c]) ++ b by simp, List.drop_left]

set_option maxRecDepth 100000 in
set_option maxHeartbeats 3200000 in
theorem spec_RuleOf (n : Int) (w : World) :
    Calls Tryz.prog 15 #[.int .i64 n] w (RetRB fun a b c w' => c = isR n ∧ Below w.heap.size w w' ∧ RuleOwn w.heap.size w'.heap.size w' a b (ruleN n true) (ruleN n false)) := by
  obtain ⟨w0, hw0⟩ : ∃ w0, w0 = w.alloc (.cells #[.slice none 0 0, .slice none 0 0] 24) := ⟨_, rfl⟩
  obtain ⟨w1, hw1⟩ : ∃ w1, w1 = w0.alloc (.cells ruleVs.toArray 9) := ⟨_, rfl⟩
  have hb0 : Below w.heap.size w w0 := by rw [hw0]; exact (Below.refl _ _).alloc (Nat.le_refl _) _
  have hsz : w0.heap.size = w.heap.size + 1 := by rw [hw0]; simp
  have hb1 : Below w0.heap.size w0 w1 := by rw [hw1]; exact (Below.refl _ _).alloc (Nat.le_refl _) _
  have hsz1 : w1.heap.size = w.heap.size + 2 := by rw [hw1]; simp; omega
  have HB := Lib.hid (hb0.trans (hb1.mono (by omega)))
  have K : Hid (Blk w.heap.size (.cells #[.slice none 0 0, .slice none 0 0] 24) w1) := Lib.hid (Blk.below (by rw [hw0]; exact Blk.new w _) hb1 (by omega))
  have KR := Lib.hid (show Blk w0.heap.size (.cells ruleVs.toArray 9) w1 by rw [hw1]; exact Blk.new w0 _)
  have HW0 := Lib.hid hw0
  have HW1 := Lib.hid hw1
  have HQ := Lib.hid (show isR n = inB n 0 20 from rfl)
  clear hb0 hb1 hw0 hw1
  cases hq : inB n 0 20
  · have c0 := K.out.cell 0
    have c1 := K.out.cell 1
    have f0 := K.out.free 0
    have f1 := K.out.free 1
    obtain ⟨wz, hwz⟩ : ∃ wz, wz = ((w1.setCell ⟨w.heap.size, 0, none⟩ (.slice none 0 0)).setCell ⟨w.heap.size, 1, none⟩ (.slice none 0 0)) := ⟨_, rfl⟩
    have KZ := K.out.set2 (.slice none 0 0) (.slice none 0 0)
    have HO := Lib.hid (Outside.set2 w.heap.size w1 (.slice none 0 0) (.slice none 0 0))
    rw [← hwz] at KZ HO
    have HZ := Lib.hid (Below.outside HB.out HO.out (Nat.le_refl _) HB.out.size)
    have q0 := KZ.cell 0
    have q1 := KZ.cell 1
    have hzs := HZ.out.size
    have HWZ := Lib.hid hwz
    clear KZ hwz
    go_enter Tryz.func15, Tryz.ntmps15
    go_wp2_with fail
    simp only [← HW0.out]
    refine (l9Rules_any _).mono ?_
    rintro e wx ⟨rfl, rfl⟩
    rw [← HW1.out]
    go_wp2_with fail
    refine (l1In_any _ _ _ _).mono ?_
    rintro e wx ⟨rfl, rfl⟩
    rw [hq]
    go_wp2
    simp only [← HWZ.out]
    refine bodyPost_ret (v := .tuple #[.agg #[.slice none 0 0, .slice none 0 0], .bool false]) (by simp [results, Tryz.results15, go_sem, q0, q1]) rfl ⟨_, _, _, rfl, by rw [HQ.out]; exact hq.symm, HZ.out, ?_⟩
    have h1 : ruleN n true = [] := by simp [ruleN, HQ.out, hq]
    have h2 : ruleN n false = [] := by simp [ruleN, HQ.out, hq]
    rw [h1, h2]
    exact RuleOwn.nil _ _ hzs _
  · obtain ⟨m, rfl, hm⟩ : ∃ m : Nat, n = m ∧ m < 21 := ⟨n.toNat, by simp [inB] at hq; omega, by simp [inB] at hq; omega⟩
    obtain ⟨eL, pL, vL, sL, lL⟩ := side_open hm true
    obtain ⟨eR, pR, vR, sR, lR⟩ := side_open hm false
    obtain ⟨hcut, hno⟩ := rule_cut m hm
    have PL := Lib.hid (And.intro pL (And.intro vL sL))
    have PR := Lib.hid (And.intro pR (And.intro vR sR))
    have ct : w1.cell? ⟨w0.heap.size, m, none⟩ = some (.string ⟨(ruleT.getD m []).toArray⟩) := (KR.out.cell m).trans (by rw [List.getElem?_toArray]; exact ruleVs_get hm)
    obtain ⟨A, hA⟩ : ∃ A, A = sideT m true := ⟨_, rfl⟩
    obtain ⟨B, hB⟩ : ∃ B, B = sideT m false := ⟨_, rfl⟩
    rw [← hA, ← hB] at hcut
    rw [← hA] at hno lL PL
    rw [← hB] at lR PR
    rw [hcut, hsz] at ct
    have hmI : (m : Int) < 21 := by omega
    have hx1 := ext_pre A B 61
    have hx2 := ext_suf A B 61
    have hlen : (A ++ 61 :: B).length ≤ 41 := by simp; omega
    have hlenA : A.length < (A ++ 61 :: B).length := by simp
    have h61 : ∀ hh : A.length < (ByteArray.mk (A ++ 61 :: B).toArray).size, (ByteArray.mk (A ++ 61 :: B).toArray)[A.length]'hh = 61 := fun _ => by
      show (A ++ 61 :: B)[A.length]'(by simp) = 61
      simp
    have hpre : ∀ k (h : k < A.length) (h2 : k < (A ++ 61 :: B).length), (A ++ 61 :: B)[k] = A[k] := fun k h h2 => List.getElem_append_left h
    clear pL vL sL pR vR sR hcut hA hB
    obtain ⟨T, hT⟩ : ∃ T, T = A ++ 61 :: B := ⟨_, rfl⟩
    rw [← hT] at ct hx1 hx2 hlen hlenA h61 hpre
    clear hT
    have HX := Lib.hid (And.intro hx1 hx2)
    have HPRE := Lib.hid hpre
    have H61 := Lib.hid h61
    clear hx1 hx2 hpre h61
    go_enter Tryz.func15, Tryz.ntmps15
    go_wp2_with fail
    simp only [← HW0.out]
    refine (l9Rules_any _).mono ?_
    rintro e wx ⟨rfl, rfl⟩
    rw [← HW1.out]
    go_wp2_with fail
    refine (l1In_any _ _ _ _).mono ?_
    rintro e wx ⟨rfl, rfl⟩
    rw [hq]
    go_wp2
    go_loop [5] (fun i => ∃ k : Nat, k ≤ A.length ∧ i = .int .i64 k) (fun i => A.length - (intOf i).toNat)
    case atStart => exact ⟨0, by omega, rfl⟩
    case round =>
      obtain ⟨k, hk, rfl⟩ := hrel
      by_cases hlt : k < A.length
      · have hkl : k < T.length := by omega
        have hkI : (k : Int) < T.length := by omega
        obtain ⟨c, hc⟩ : ∃ c, c = A[k] := ⟨_, rfl⟩
        have hgc : ∀ hh : k < (ByteArray.mk T.toArray).size, (ByteArray.mk T.toArray)[k]'hh = c := fun _ => by
          show T[k]'hkl = c
          rw [HPRE.out k hlt hkl, hc]
        have hcn : ((c.toNat : Int) != 61) = true := by
          have h := List.all_eq_true.1 hno c (by rw [hc]; exact List.getElem_mem _)
          simp at h ⊢
          omega
        clear hc
        go_wp2
        go_round
        case rel => exact ⟨k + 1, by omega, by go_num⟩
        case measure => simp [intOf]; omega
      · obtain rfl : k = A.length := by omega
        have hAI : (A.length : Int) < T.length := by omega
        have h61 := H61.out
        have h61' : ((61 : UInt8).toNat : Int) = 61 := rfl
        have hx1 := HX.out.1
        have hx2 := HX.out.2
        have hwr : IntKind.i64.wrap ((A.length : Int) + 1) = (A.length : Int) + 1 := by simp [IntKind.wrap, IntKind.bits, IntKind.signed]; omega
        have hb1 : (0 : Int) ≤ (A.length : Int) + 1 := by omega
        have hb2 : (A.length : Int) + 1 ≤ T.length := by omega
        have hb3 : ((A.length : Int) + 1).toNat = A.length + 1 := by omega
        have hb4 : (A.length : Int) ≤ T.length := by omega
        have hb5 : A.length ≤ T.length := by omega
        have hb6 : A.length + 1 ≤ T.length := by omega
        have ctd : w1.drew.cell? ⟨w.heap.size + 1, m, none⟩ = some (.string ⟨T.toArray⟩) := ct
        have KD := Lib.hid (show Blk w.heap.size (.cells #[.slice none 0 0, .slice none 0 0] 24) w1.drew from K.out)
        have hdsz : w1.drew.heap.size = w.heap.size + 2 := hsz1
        have HBD := Lib.hid HB.out.drew
        go_wp2_with fail
        go_region_held3 (fun w' => w'.cell? ⟨w.heap.size + 1, m, none⟩ = some (.string ⟨T.toArray⟩)) (first | assumption | go_keep) (first
          | (go_at_call_of 70 A; refine (l9Side_any A eL _ (by omega) PL.out.1 PL.out.2.1).mono ?_; rintro e w2 ⟨v2, rfl, hbx, hown2⟩; obtain ⟨a2, cap2, rfl, _⟩ := Own.open hown2; (have hz2 := hbx.size); (have ct2 : w2.cell? ⟨w.heap.size + 1, m, none⟩ = some (.string ⟨T.toArray⟩) := (hbx.cell (p := ⟨w.heap.size + 1, m, none⟩) (by show w.heap.size + 1 < w1.drew.heap.size; omega)).trans ctd); (have K2 := Lib.hid (KD.out.below hbx KD.out.lt)); (have HB2 := Lib.hid (HBD.out.trans (hbx.mono HBD.out.size))); (have HL := Lib.hid hown2); clear hbx hown2)
          | (go_at_call_of 70 B; refine (l9Side_any B eR _ (by omega) PR.out.1 PR.out.2.1).mono ?_; rintro e w3 ⟨v3, rfl, hbx, hown3⟩; obtain ⟨a3, cap3, rfl, _⟩ := Own.open hown3; (have hz3 := hbx.size); (have ct3 := (hbx.cell (p := ⟨w.heap.size + 1, m, none⟩) (by show w.heap.size + 1 < w2.heap.size; omega)).trans ct2); (have K3 := Lib.hid (K2.out.below hbx K2.out.lt)); (have HB3 := Lib.hid (HB2.out.trans (hbx.mono HB2.out.size))); (have HL3 := Lib.hid (HL.out.below hbx (Nat.le_refl _))); (have HR3 := Lib.hid hown3); (have c0 := K3.out.cell 0); (have c1 := K3.out.cell 1); (have f0 := K3.out.free 0); (have f1 := K3.out.free 1); clear hbx hown3))
        all_goals (
          obtain ⟨wz, hwz⟩ : ∃ wz, wz = ((w3.setCell ⟨w.heap.size, 0, none⟩ (.slice a2 eL.length cap2)).setCell ⟨w.heap.size, 1, none⟩ (.slice a3 eR.length cap3)) := ⟨_, rfl⟩
          have KZ := K3.out.set2 (.slice a2 eL.length cap2) (.slice a3 eR.length cap3)
          have HO := Lib.hid (Outside.set2 w.heap.size w3 (.slice a2 eL.length cap2) (.slice a3 eR.length cap3))
          rw [← hwz] at KZ HO
          have HZ := Lib.hid (Below.outside HB3.out HO.out (Nat.le_refl _) HB3.out.size)
          have q0 := KZ.cell 0
          have q1 := KZ.cell 1
          have hzs := HO.out.size
          have g1 : ruleN m true = eL.map toVar := by simp [ruleN, HQ.out, hq, PL.out.2.2]
          have g2 : ruleN m false = eR.map toVar := by simp [ruleN, HQ.out, hq, PR.out.2.2]
          have HG := Lib.hid (And.intro g1 g2)
          clear KZ g1 g2
          go_wp2
          simp only [← hwz]
          clear hwz
          refine bodyPost_ret (v := .tuple #[.agg #[.slice a2 eL.length cap2, .slice a3 eR.length cap3], .bool true]) (by simp [results, Tryz.results15, go_sem, q0, q1]) rfl ⟨_, _, _, rfl, by rw [HQ.out]; exact hq.symm, HZ.out, ?_⟩
          rw [HG.out.1, HG.out.2]
          have h1 := HL3.out
          have h2 := HR3.out
          simp only [List.length_map] at h1 h2
          exact ⟨w2.heap.size, by omega, by omega, (h1.outside HO.out (.inr (by omega))).lower (by omega) (Nat.le_refl _), (h2.outside HO.out (.inr (by omega))).lower (Nat.le_refl _) hzs⟩)
end Go.Proofs.YtjpndimhegfbnaaGreatDoor
