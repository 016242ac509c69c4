/-
  Texts of walks and plain lemmas for this seat; no condition.
-/
import Derived.Test.YtoondakdjhhehaaDoorCerP
import Derived.Test.YtoondakdjhhehaaDoorGQ
namespace Go.Proofs.YtoondakdjhhehaaDoor
open Go.RowKit

theorem sole_no {x : Nat} (hx : x < 32) (h : sole x = false) (h0 : x ≠ 0) : (x &&& (x - 1)) ≠ 0 := by
  rw [sole_bits x hx] at h
  simp [h0] at h
  exact h
theorem sole_yes {x : Nat} (hx : x < 32) (h : sole x = true) : x ≠ 0 ∧ (x &&& (x - 1)) = 0 := by
  rw [sole_bits x hx] at h
  simp at h
  exact h
theorem certB_no {M : Mo} {k j : Nat} (hk : k < M.acts.length) (hj : j < M.acts[k].length) (h : sole (M.acts[k][j]).toNat = false) : certB M = false := by
  rw [Bool.eq_false_iff]
  intro hc
  simp only [certB, Bool.and_eq_true, List.all_eq_true] at hc
  have := hc.2 _ (List.getElem_mem hk) _ (List.getElem_mem hj)
  rw [h] at this
  cases this
theorem certB_yes {M : Mo} (hm : modB M = true) (h : ∀ k (hk : k < M.acts.length) j (hj : j < M.acts[k].length), sole (M.acts[k][j]).toNat = true) : certB M = true := by
  simp only [certB, hm, Bool.true_and, List.all_eq_true]
  intro r hr x hx
  obtain ⟨k, hk, rfl⟩ := List.getElem_of_mem hr
  obtain ⟨j, hj, rfl⟩ := List.getElem_of_mem hx
  exact h k hk j hj
theorem certB_mod' {M : Mo} (h : modB M = false) : certB M = false := by simp [certB, h]
/-- An element of a valid model's rows. -/
theorem modB_el {M : Mo} (hm : modB M = true) {k j : Nat} (hk : k < M.acts.length) (hj : j < M.acts[k].length) : ∃ x : Nat, M.acts[k][j] = x ∧ x < 32 := by
  simp only [modB, Bool.and_eq_true, decide_eq_true_eq, List.all_eq_true] at hm
  have hr := hm.2 _ (List.getElem_mem hk)
  simp only [rowsB, inB, Bool.and_eq_true, decide_eq_true_eq, List.all_eq_true, isSetB] at hr
  obtain ⟨⟨⟨h1, h2⟩, _⟩, h3⟩ := hr
  obtain ⟨h4, h5⟩ := h3 _ (List.getElem_mem hj)
  refine ⟨(M.acts[k][j]).toNat, by omega, ?_⟩
  have : (2 : Int) ^ M.n.toNat ≤ 32 := by
    have : M.n.toNat = 1 ∨ M.n.toNat = 2 ∨ M.n.toNat = 3 ∨ M.n.toNat = 4 ∨ M.n.toNat = 5 := by omega
    rcases this with h | h | h | h | h <;> rw [h] <;> decide
  omega

set_option maxRecDepth 100000 in
set_option maxHeartbeats 1600000 in
theorem impl_Certain (la ha : Nat) (M : Mo) (va : Value) (w : World) (hA : SlLL la ha w va M.acts) (hha : ha ≤ w.heap.size) (hm : M.acts.length ≤ 1048576) (hm2 : ∀ x ∈ M.acts, x.length ≤ 1048576) :
    Calls Tryd.prog 39 #[aggMo M va] w fun e w' => e = .returned (.bool (certB M)) ∧ Below w.heap.size w w' := by
  obtain ⟨sa, sc, rfl, _, hmc⟩ := hA.shape
  clear hmc
  have HN : Hid (∀ (k j : Nat) (hk : k < M.acts.length) (hj : j < M.acts[k].length), sole (M.acts[k][j]).toNat = false → certB M = false) := Lib.hid fun k j hk hj h => certB_no hk hj h
  have HY : Hid (modB M = true → (∀ k (hk : k < M.acts.length) j (hj : j < M.acts[k].length), sole (M.acts[k][j]).toNat = true) → certB M = true) := Lib.hid fun h k => certB_yes h k
  have HM0 : Hid (modB M = false → certB M = false) := Lib.hid certB_mod'
  have HEl : Hid (modB M = true → ∀ (k j : Nat) (hk : k < M.acts.length) (hj : j < M.acts[k].length), ∃ x : Nat, M.acts[k][j] = x ∧ x < 32) := Lib.hid fun h k j hk hj => modB_el h hk hj
  obtain ⟨cb, hcb⟩ : ∃ cb, cb = certB M := ⟨_, rfl⟩
  rw [← hcb] at HN HY HM0 ⊢
  clear hcb
  obtain ⟨n, P, Q, acts⟩ := M
  simp only at hA hm hm2 ⊢
  obtain ⟨w0, hw0⟩ : ∃ w0, w0 = w.alloc (.cells #[.int .i64 n, .int .i64 P, .int .i64 Q, .slice sa acts.length sc] 25) := ⟨_, rfl⟩
  obtain ⟨hb0, KB_, hs0⟩ := box_facts3 hw0
  have KB := Lib.hid KB_
  have HB := Lib.hid hb0
  have HA := Lib.hid (hA.below hb0 hha)
  have HM2 := Lib.hid hm2
  have HW := Lib.hid hw0
  have k0 := KB.out.cell 0
  have k1 := KB.out.cell 1
  have k2 := KB.out.cell 2
  have k3 := KB.out.cell 3
  clear hA hm2 hb0 KB_ hw0
  go_enter Tryd.func39, Tryd.ntmps39
  go_upto_region 1 with (rw [← HW.out])
  try rw [← HW.out]
  go_wp2_with fail
  refine (implModelValid la ha ⟨n, P, Q, acts⟩ _ w0 HA.out (by omega) hm HM2.out).mono ?_
  rintro e1 w1 ⟨rfl, hb1⟩
  clear k0 k1 k2 k3 HW
  have hs1 := hb1.size
  replace KB := Lib.hid (KB.out.below hb1 KB.out.lt)
  replace HA := Lib.hid (HA.out.below hb1 (by omega))
  replace HB := Lib.hid (HB.out.trans (hb1.mono (by omega)))
  clear hb1
  cases h1 : modB ⟨n, P, Q, acts⟩
  · have HE := Lib.hid (HM0.out h1)
    clear h1
    go_wp2
    go_ret
    exact ⟨ret_bool HE.out.symm, HB.out⟩
  · have k3 := KB.out.cell 3
    replace HEl := Lib.hid (HEl.out h1)
    replace HY := Lib.hid (HY.out h1)
    clear h1 HM0
    go_wp2
    go_loop [13] (fun i => ∃ k : Nat, k ≤ acts.length ∧ i = .int .i64 k ∧ Hid (∀ k' (hk : k' < acts.length) j (hj : j < acts[k'].length), k' < k → sole (acts[k'][j]).toNat = true)) (fun i => acts.length - (intOf i).toNat)
    case atStart => exact ⟨0, by omega, rfl, Lib.hid (by intro k' hk j hj h; omega)⟩
    case round =>
      obtain ⟨k, hk, rfl, HD⟩ := hrel
      by_cases hlt : k < acts.length
      · obtain ⟨b, off, u, rfl, _, _, _, hck, hrow⟩ := HA.out.get k hlt
        obtain ⟨ra, rc, rfl, _, hrm⟩ := Sl.shape hrow
        have HR := Lib.hid hrow
        have hrl := HM2.out _ (List.getElem_mem hlt)
        obtain ⟨row, hrow_⟩ : ∃ row, row = acts[k] := ⟨_, rfl⟩
        have HRW := Lib.hid hrow_
        rw [← hrow_] at HR hck hrl
        clear hrow hrow_ hrm
        go_wp2
        go_loop [19] (fun i => ∃ m : Nat, m ≤ row.length ∧ i = .int .i64 m ∧ Hid (∀ j (hj : j < row.length), j < m → sole (row[j]).toNat = true)) (fun i => row.length - (intOf i).toNat)
        case atStart => exact ⟨0, by omega, rfl, Lib.hid (by intro j hj h; omega)⟩
        case round =>
          obtain ⟨m, hml, rfl, HI⟩ := hrel
          by_cases hlt2 : m < row.length
          · obtain ⟨b', off', rfl, _, _, _, hcm⟩ := HR.out.get m hlt2
            obtain ⟨x, hx, hx32⟩ : ∃ x : Nat, row[m] = x ∧ x < 32 := by
              obtain ⟨x, h1, h2⟩ := HEl.out k m hlt (by rw [← HRW.out]; exact hlt2)
              exact ⟨x, by rw [← h1]; simp only [HRW.out], h2⟩
            rw [hx] at hcm
            have HX := Lib.hid hx
            have hba := bits64_and x (x - 1) (by omega) (by omega)
            cases hs : sole x
            · have HF : Hid (cb = false) := Lib.hid (HN.out k m hlt (by rw [← HRW.out]; exact hlt2) (by simp only [← HRW.out, HX.out, Int.toNat_natCast]; exact hs))
              by_cases h0 : x = 0
              · subst h0
                clear hba hx hs
                go_wp2
                go_ret
                exact ⟨ret_bool HF.out.symm, HB.out⟩
              · have hz := sole_no hx32 hs h0
                obtain ⟨y, hy⟩ : ∃ y : Nat, y = x &&& (x - 1) := ⟨_, rfl⟩
                rw [← hy] at hz hba
                have e1 : ((x - 1 : Nat) : Int) = (x : Int) - 1 := by omega
                rw [e1] at hba
                have z1 : ((x : Int) == 0) = false := by simp; omega
                have z2 : ((y : Int) != 0) = true := by simp; omega
                clear hx hs hy hz e1 h0
                go_wp2
                go_ret
                exact ⟨ret_bool HF.out.symm, HB.out⟩
            · obtain ⟨h0, hz⟩ := sole_yes hx32 hs
              have HS := Lib.hid hs
              have e1 : ((x - 1 : Nat) : Int) = (x : Int) - 1 := by omega
              rw [hz, e1] at hba
              have z1 : ((x : Int) == 0) = false := by simp; omega
              clear hx hs hz e1 h0
              go_wp2
              go_round
              case rel =>
                refine ⟨m + 1, by omega, by go_num, Lib.hid fun j hj hjm => ?_⟩
                by_cases e : j < m
                · exact HI.out j hj e
                · obtain rfl : j = m := by omega
                  rw [HX.out, Int.toNat_natCast]
                  exact HS.out
              case measure => simp [intOf]; omega
          · obtain rfl : m = row.length := by omega
            go_wp2
            go_round
            case rel =>
              refine ⟨k + 1, by omega, by go_num, Lib.hid fun k' hk' j hj hkk => ?_⟩
              by_cases e : k' < k
              · exact HD.out k' hk' j hj e
              · obtain rfl : k' = k := by omega
                have h := HI.out j (by rw [HRW.out]; exact hj) (by rw [HRW.out]; exact hj)
                simp only [HRW.out] at h
                exact h
            case measure => simp [intOf]; omega
      · have HF : Hid (cb = true) := Lib.hid (HY.out fun k' hk' j hj => HD.out k' hk' j hj (by omega))
        go_wp2
        go_ret
        exact ⟨ret_bool HF.out.symm, HB.out⟩
theorem impl_hasState (M : Mo) (va : Value) (st : Int) (w : World) (hva : ∃ a m c, va = .slice a m c) :
    Calls Tryd.prog 40 #[aggMo M va, .int .i64 st] w fun e w' => e = .returned (.bool (inB st 0 (M.n - 1))) ∧ Below w.heap.size w w' := by
  obtain ⟨sa, sm, sc, rfl⟩ := hva
  obtain ⟨n, P, Q, acts⟩ := M
  have HI : Hid (inB st 0 (n - 1) = (decide (0 ≤ st) && decide (st < n))) := Lib.hid (by rw [Bool.eq_iff_iff]; simp [inB]; omega)
  simp only
  obtain ⟨r, hr⟩ : ∃ r, r = inB st 0 (n - 1) := ⟨_, rfl⟩
  rw [← hr] at HI ⊢
  clear hr
  by_cases h1 : 0 ≤ st
  · by_cases h2 : st < n
    · have HR : Hid (r = true) := Lib.hid (by rw [HI.out]; simp [h1, h2])
      go_enter Tryd.func40, Tryd.ntmps40
      go_wp2
      go_ret
      exact ⟨ret_bool HR.out.symm, (Below.refl _ _).alloc (Nat.le_refl _) _⟩
    · have HR : Hid (r = false) := Lib.hid (by rw [HI.out]; simp [h2])
      go_enter Tryd.func40, Tryd.ntmps40
      go_wp2
      go_ret
      exact ⟨ret_bool HR.out.symm, (Below.refl _ _).alloc (Nat.le_refl _) _⟩
  · have HR : Hid (r = false) := Lib.hid (by rw [HI.out]; simp [h1])
    go_enter Tryd.func40, Tryd.ntmps40
    go_wp2
    go_ret
    exact ⟨ret_bool HR.out.symm, (Below.refl _ _).alloc (Nat.le_refl _) _⟩
end Go.Proofs.YtoondakdjhhehaaDoor
