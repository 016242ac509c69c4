/-
  Texts of walks and plain lemmas for this seat; no condition.
-/
import Derived.Test.YtoondakdjhhehaaDoorSMod
import Derived.Deep.QuietTactic
import Derived.BigQuiet
import Derived.IntWalk
namespace Go.Proofs.YtoondakdjhhehaaDoor
open Go.RowKit

set_option maxRecDepth 100000 in
set_option maxHeartbeats 3200000 in
theorem spec_Certain (la ha : Nat) (M : Mo) (va : Value) (w : World) (hA : SlLL la ha w va M.acts) (hha : ha ≤ w.heap.size) (hm : M.acts.length ≤ 1048576) (hm2 : ∀ x ∈ M.acts, x.length ≤ 1048576) :
    Calls Tryd.prog 31 #[aggMo M va] w fun e w' => e = .returned (.bool (certB M)) ∧ Below w.heap.size w w' := by
  obtain ⟨sa, sc, rfl, _, hmc⟩ := hA.shape
  clear hmc
  have HN : Hid (∀ (k j : Nat) (hk : k < M.acts.length) (hj : j < M.acts[k].length), sole (M.acts[k][j]).toNat = false → certB M = false) := Lib.hid fun k j hk hj h => certB_no hk hj h
  have HY : Hid (modB M = true → (∀ k (hk : k < M.acts.length) j (hj : j < M.acts[k].length), sole (M.acts[k][j]).toNat = true) → certB M = true) := Lib.hid fun h k => certB_yes h k
  have HM0 : Hid (modB M = false → certB M = false) := Lib.hid certB_mod'
  have HEl : Hid (modB M = true → ∀ (k j : Nat) (hk : k < M.acts.length) (hj : j < M.acts[k].length), ∃ x : Nat, M.acts[k][j] = x ∧ x < 32) := Lib.hid fun h k j hk hj => modB_el h hk hj
  have HLn : Hid (modB M = true → ∀ (k : Nat) (hk : k < M.acts.length), (M.acts[k].length : Int) = M.n ∧ M.acts[k].length ≤ 5) := Lib.hid fun h k hk => by
    simp only [modB, Bool.and_eq_true, List.all_eq_true] at h
    have hr := h.2 _ (List.getElem_mem hk)
    simp only [rowsB, inB, Bool.and_eq_true, decide_eq_true_eq] at hr
    omega
  obtain ⟨cb, hcb⟩ : ∃ cb, cb = certB M := ⟨_, rfl⟩
  rw [← hcb] at HN HY HM0 ⊢
  clear hcb
  obtain ⟨n, P, Q, acts⟩ := M
  simp only at hA hm hm2 ⊢
  obtain ⟨gM, hgM⟩ : ∃ gM, gM = w.heap.size := ⟨_, rfl⟩
  obtain ⟨w0, hw0⟩ : ∃ w0, w0 = w.alloc (.cells #[.int .i64 n, .int .i64 P, .int .i64 Q, .slice sa acts.length sc] 25) := ⟨_, rfl⟩
  obtain ⟨hb0, KB_, hs0⟩ := box_facts3 hw0
  have KB := Lib.hid KB_
  have HB := Lib.hid hb0
  have HA := Lib.hid (hA.below hb0 hha)
  have HM2 := Lib.hid hm2
  have HW := Lib.hid hw0
  rw [← hgM] at KB
  have HGM := Lib.hid hgM
  clear hA hm2 hb0 KB_ hw0 hgM
  have hgl := KB.out.lt
  have hha0 : ha ≤ w0.heap.size := by omega
  go_enter Tryd.func31, Tryd.ntmps31
  go_upto_region 1 with (rw [← HW.out])
  try rw [← HW.out]
  rw [← HGM.out]
  go_upto_region 2 with fail
  go_loopw [3] (fun i wr => ∃ k : Nat, k ≤ acts.length ∧ i = .int .i64 k ∧ Hid (∀ k' (hk : k' < acts.length) j (hj : j < acts[k'].length), k' < k → sole (acts[k'][j]).toNat = true) ∧ Hid (Below w0.heap.size w0 wr)) (fun i _ => acts.length - (intOf i).toNat)
  case atStart => exact ⟨0, by omega, rfl, Lib.hid (by intro k' hk j hj h; omega), Lib.hid (Below.refl _ _)⟩
  case round =>
    obtain ⟨k, hk, rfl, HD, HQ⟩ := hrel
    obtain ⟨wo, rfl⟩ : ∃ x_, x_ = wr := ⟨_, rfl⟩
    have hsr := HQ.out.size
    have KR := Lib.hid (KB.out.below HQ.out hgl)
    have hgr := KR.out.lt
    have k0 := KR.out.cell 0
    have k1 := KR.out.cell 1
    have k2 := KR.out.cell 2
    have k3 := KR.out.cell 3
    have HA1 := Lib.hid (HA.out.below HQ.out hha0)
    by_cases hlt : k < acts.length
    · go_wp2_with fail
      refine (spec_ModelValid la ha ⟨n, P, Q, acts⟩ _ _ HA1.out (by omega) hm HM2.out).mono ?_
      rintro e w2 ⟨rfl, hb2⟩
      clear k0 k1 k2 k3
      have hs2 := hb2.size
      replace KR := Lib.hid (KR.out.below hb2 hgr)
      replace HA1 := Lib.hid (HA1.out.below hb2 (by omega))
      replace HQ := Lib.hid (HQ.out.trans (hb2.mono hsr))
      have hg2 := KR.out.lt
      have k0 := KR.out.cell 0
      have k1 := KR.out.cell 1
      have k2 := KR.out.cell 2
      have k3 := KR.out.cell 3
      clear hb2
      cases h1 : modB ⟨n, P, Q, acts⟩
      · have HE := Lib.hid (HM0.out h1)
        have H1 := Lib.hid h1
        clear h1
        go_wp2_with fail
        refine (spec_ModelValid la ha ⟨n, P, Q, acts⟩ _ _ HA1.out (by omega) hm HM2.out).mono ?_
        rintro e w3 ⟨rfl, hb3⟩
        have HQ3 := Lib.hid (HQ.out.trans (hb3.mono (by omega)))
        clear hb3 k0 k1 k2 k3
        rw [H1.out]
        go_wp2
        go_ret
        exact ⟨ret_bool HE.out.symm, HB.out.trans (HQ3.out.mono (by omega))⟩
      · replace HEl := Lib.hid (HEl.out h1)
        replace HY := Lib.hid (HY.out h1)
        obtain ⟨hrl, hr5⟩ := HLn.out h1 k hlt
        clear h1 HM0
        obtain ⟨b, off, u, rfl, _, hb1, hb2, hck, hrow⟩ := HA1.out.get k hlt
        obtain ⟨ra, rc, rfl, _, hrm⟩ := Sl.shape hrow
        have HR := Lib.hid hrow
        obtain ⟨row, hrw⟩ : ∃ row, row = acts[k] := ⟨_, rfl⟩
        have HRW := Lib.hid hrw
        rw [← hrw] at HR hrl hr5 hck
        clear hrow hrm hrw
        obtain ⟨nn, rfl⟩ : ∃ nn : Nat, n = nn := ⟨n.toNat, by omega⟩
        have hnn : row.length = nn := by omega
        rw [hnn] at hck
        have HRL := Lib.hid hnn
        clear hrl hnn
        have i1 : (k : Int) < acts.length := by omega
        go_upto_region 5 with fail
        go_loopw [4] (fun i wr => ∃ j : Nat, j ≤ nn ∧ i = .int .i64 j ∧ Hid (∀ j' (hj : j' < row.length), j' < j → sole (row[j']).toNat = true) ∧ Hid (Below w2.heap.size w2 wr)) (fun i _ => nn - (intOf i).toNat)
        case atStart => exact ⟨0, by omega, rfl, Lib.hid (by intro j hj h; omega), Lib.hid (Below.refl _ _)⟩
        case round =>
          obtain ⟨j, hj, rfl, HI, HQ3⟩ := hrel
          have hs3 := HQ3.out.size
          clear k0 k1 k2 k3
          have K3 := Lib.hid (KR.out.below HQ3.out hg2)
          have k0 := K3.out.cell 0
          have k1 := K3.out.cell 1
          have k2 := K3.out.cell 2
          have k3 := K3.out.cell 3
          by_cases hlt2 : j < nn
          · have hlr : j < row.length := by rw [HRL.out]; exact hlt2
            obtain ⟨b', off', rfl, _, _, hb4, hcm⟩ := (HR.out.below HQ3.out (by omega)).get j hlr
            obtain ⟨x, hx, hx32⟩ : ∃ x : Nat, row[j] = x ∧ x < 32 := by
              obtain ⟨x, h1, h2⟩ := HEl.out k j hlt (by rw [← HRW.out]; exact hlr)
              exact ⟨x, by rw [← h1]; simp only [HRW.out], h2⟩
            rw [hx] at hcm
            have HX := Lib.hid hx
            have hck3 := (HQ3.out.cell (p := ⟨b, off + k, none⟩) hb2).trans hck
            have i2 : (j : Int) < nn := by omega
            clear hx hck
            cases hs : sole x
            · have HE : Hid (cb = false) := Lib.hid (HN.out k j hlt (by rw [← HRW.out]; exact hlr) (by simp only [← HRW.out, HX.out, Int.toNat_natCast]; exact hs))
              by_cases h0 : x = 0
              · subst h0
                clear hs
                go_wp2
                go_quiet (fail)
                go_wp2
                go_ret
                exact ⟨ret_bool HE.out.symm, HB.out.trans ((below_drewN (HQ.out.trans (HQ3.out.mono (by omega))) _).mono (by omega))⟩
              · have hz := sole_no hx32 hs h0
                have z1 : ((x : Int) == 0) = false := by simp; omega
                have e1 : IntKind.i64.wrap ((x : Int) - 1) = ((x - 1 : Nat) : Int) := by rw [IntWalk.i64_in _ (by omega)]; omega
                obtain ⟨y, hy⟩ : ∃ y : Nat, y = x &&& (x - 1) := ⟨_, rfl⟩
                have z2 : ((y : Int) != 0) = true := by simp; omega
                have HC := Lib.hid (l1BothG_q x (x - 1) (by omega) (by omega))
                rw [← hy] at HC
                obtain ⟨x1, hx1⟩ : ∃ x1 : Nat, x1 = x - 1 := ⟨_, rfl⟩
                rw [← hx1] at e1 HC
                clear hs hy hz h0 hx1
                go_wp2
                go_quiet ((go_at_call 65; exact Calls.quiet_of_same (HC.out _)))
                go_wp2
                go_ret
                exact ⟨ret_bool HE.out.symm, HB.out.trans ((below_drewN (HQ.out.trans (HQ3.out.mono (by omega))) _).mono (by omega))⟩
            · obtain ⟨h0, hz⟩ := sole_yes hx32 hs
              have HS := Lib.hid hs
              have z1 : ((x : Int) == 0) = false := by simp; omega
              have e1 : IntKind.i64.wrap ((x : Int) - 1) = ((x - 1 : Nat) : Int) := by rw [IntWalk.i64_in _ (by omega)]; omega
              have HC := Lib.hid (l1BothG_q x (x - 1) (by omega) (by omega))
              rw [hz] at HC
              obtain ⟨x1, hx1⟩ : ∃ x1 : Nat, x1 = x - 1 := ⟨_, rfl⟩
              rw [← hx1] at e1 HC
              clear hs hz h0 hx1
              go_wp2
              go_quiet ((go_at_call 65; exact Calls.quiet_of_same (HC.out _)))
              go_wp2
              go_roundw
              case rel =>
                refine ⟨j + 1, by omega, by go_num, Lib.hid fun j' hj' hjm => ?_, Lib.hid (below_drewN HQ3.out _)⟩
                by_cases e : j' < j
                · exact HI.out j' hj' e
                · obtain rfl : j' = j := by omega
                  rw [HX.out, Int.toNat_natCast]
                  exact HS.out
              case measure => simp [intOf]; omega
          · obtain rfl : j = nn := by omega
            go_wp2
            go_roundw
            case rel =>
              refine ⟨k + 1, by omega, by go_num, Lib.hid fun k' hk' j' hj' hkk => ?_, Lib.hid (HQ.out.trans (HQ3.out.mono (by omega)))⟩
              by_cases e : k' < k
              · exact HD.out k' hk' j' hj' e
              · obtain rfl : k' = k := by omega
                have hl := HRL.out
                have h := HI.out j' (by rw [HRW.out]; exact hj') (by rw [← HRL.out, HRW.out]; exact hj')
                simp only [HRW.out] at h
                exact h
            case measure => simp [intOf]; omega
    · go_wp2_with fail
      refine (spec_ModelValid la ha ⟨n, P, Q, acts⟩ _ _ HA1.out (by omega) hm HM2.out).mono ?_
      rintro e w2 ⟨rfl, hb2⟩
      have HQ3 := Lib.hid (HQ.out.trans (hb2.mono (by omega)))
      have HE : Hid (modB ⟨n, P, Q, acts⟩ = cb) := Lib.hid (by
        cases h1 : modB ⟨n, P, Q, acts⟩
        · exact (HM0.out h1).symm
        · exact (HY.out h1 fun k' hk' j hj => HD.out k' hk' j hj (by omega)).symm)
      clear hb2 k0 k1 k2 k3
      rw [HE.out]
      go_wp2
      go_ret
      exact ⟨rfl, HB.out.trans (HQ3.out.mono (by omega))⟩
end Go.Proofs.YtoondakdjhhehaaDoor
