/-
  Texts of walks and plain lemmas for this seat; no condition.
-/
import Derived.Test.YtoondakdjhhehaaDoorSCert
import Derived.Test.YtoondakdjhhehaaDoorCRunI
import Derived.Test.YtoondakdjhhehaaDoorSCVal
import Derived.Deep.QuietTactic
import Derived.BigQuiet
import Derived.Deep.RegionHeld3
import Derived.Deep.DrawnRows
namespace Go.Proofs.YtoondakdjhhehaaDoor
open Go.RowKit

theorem certB_n {M : Mo} (h : certB M = true) : 1 ≤ M.n ∧ M.n ≤ 5 := by
  have h := certB_mod h
  simp only [modB, inB, Bool.and_eq_true, decide_eq_true_eq] at h
  omega
theorem bool_sum (a b : Bool) : (((if a = true then 1 else 0) + 2 * (if b = true then 1 else 0) : Nat) : Int) = (if a = true then 1 else 0) + 2 * (if b = true then 1 else 0) := by cases a <;> cases b <;> rfl
set_option maxRecDepth 100000 in
set_option maxHeartbeats 1600000 in
theorem spec_AtomOf (la ha n p q s : Nat) (acts : List (List Int)) (va : Value) (w : World) (hok : MoOk n p q acts) (hs : s < n) (hA : SlLL la ha w va acts) (hha : ha ≤ w.heap.size) (hm : acts.length ≤ 1048576) (hm2 : ∀ x ∈ acts, x.length ≤ 1048576) :
    Calls Tryd.prog 46 #[aggMo (⟨(n : Int), (p : Int), (q : Int), acts⟩ : Mo) va, .int .i64 s] w fun e w' => e = .returned (.int .i64 ((atomN (⟨(n : Int), (p : Int), (q : Int), acts⟩ : Mo) s : Nat) : Int)) ∧ Below w.heap.size w w' := by
  obtain ⟨sa, sc, rfl, _, hmc⟩ := hA.shape
  clear hmc
  have hn5 := hok.n5
  obtain ⟨hp2, hq2⟩ := hok.small
  have hmod := hok.mod
  have HV := Lib.hid (atomN_val (⟨(n : Int), (p : Int), (q : Int), acts⟩ : Mo) s)
  simp only [Int.toNat_natCast] at HV
  have HP := Lib.hid (l1BitG_q p s hp2 (by omega))
  have HQ := Lib.hid (l1BitG_q q s hq2 (by omega))
  have HMV := Lib.hid (spec_ModelValid la ha (⟨(n : Int), (p : Int), (q : Int), acts⟩ : Mo) (.slice sa acts.length sc))
  have HI : Hid (inB (s : Int) 0 ((n : Int) - 1) = true) := Lib.hid (by simp [inB]; omega)
  rw [hmod] at HMV
  have H4 : ∃ x y : Int, bitI p s = x ∧ bitI q s = y ∧ (x = 0 ∨ x = 1) ∧ (y = 0 ∨ y = 1) ∧ ((atomN (⟨(n : Int), (p : Int), (q : Int), acts⟩ : Mo) s : Nat) : Int) = x + 2 * y := by
    refine ⟨_, _, rfl, rfl, bitI_cases p s, bitI_cases q s, ?_⟩
    rw [HV.out]
    exact bool_sum _ _
  obtain ⟨x, y, hx, hy, hx1, hy1, hat⟩ := H4
  rw [hx] at HP
  rw [hy] at HQ
  obtain ⟨av, hav⟩ : ∃ av, av = ((atomN (⟨(n : Int), (p : Int), (q : Int), acts⟩ : Mo) s : Nat) : Int) := ⟨_, rfl⟩
  rw [← hav] at hat ⊢
  have HAV := Lib.hid hat
  clear hx hy hat hav HV hmod
  obtain ⟨gM, hgM⟩ : ∃ gM, gM = w.heap.size := ⟨_, rfl⟩
  obtain ⟨w0, hw0⟩ : ∃ w0, w0 = w.alloc (.cells #[.int .i64 n, .int .i64 p, .int .i64 q, .slice sa acts.length sc] 25) := ⟨_, rfl⟩
  obtain ⟨hb0, KB_, hs0⟩ := box_facts3 hw0
  have KB := Lib.hid KB_
  have HB := Lib.hid hb0
  have HA := Lib.hid (hA.below hb0 hha)
  have HM2 := Lib.hid hm2
  have HW := Lib.hid hw0
  rw [← hgM] at KB
  have HGM := Lib.hid hgM
  clear hA hm2 hb0 KB_ hw0 hgM hok
  have hgl := KB.out.lt
  have k0 := KB.out.cell 0
  have k1 := KB.out.cell 1
  have k2 := KB.out.cell 2
  have k3 := KB.out.cell 3
  go_enter Tryd.func46, Tryd.ntmps46
  go_upto_region 1 with (rw [← HW.out])
  try rw [← HW.out]
  rw [← HGM.out]
  go_wp2_with fail
  refine (HMV.out w0 HA.out (by omega) hm HM2.out).mono ?_
  rintro e w2 ⟨rfl, hb2⟩
  clear k0 k1 k2 k3
  have KR := Lib.hid (KB.out.below hb2 hgl)
  replace HB := Lib.hid (HB.out.trans (hb2.mono (by omega)))
  have k0 := KR.out.cell 0
  have k1 := KR.out.cell 1
  have k2 := KR.out.cell 2
  have k3 := KR.out.cell 3
  clear hb2
  go_wp2_with fail
  refine (l1In_any _ _ _ _).mono ?_
  rintro e _ ⟨rfl, rfl⟩
  rw [HI.out]
  rcases hx1 with rfl | rfl <;> rcases hy1 with rfl | rfl
  all_goals
    go_wp2
    go_quiet ((go_at_call 45; first | (with_reducible exact Calls.quiet_of_same (HP.out _)) | (with_reducible exact Calls.quiet_of_same (HQ.out _))))
    go_wp2
    go_ret
    exact ⟨ret_int (by rw [HAV.out]; decide), below_drewN HB.out _⟩

set_option maxRecDepth 100000 in
set_option maxHeartbeats 3200000 in
theorem spec_CodeRun (la ha lo hi : Nat) (M : Mo) (va vc : Value) (c : List In3) (st : Int) (w : World) (hA : SlLL la ha w va M.acts) (hha : ha ≤ w.heap.size) (hm : M.acts.length ≤ 1048576) (hm2 : ∀ x ∈ M.acts, x.length ≤ 1048576)
    (hC : SlC lo hi w vc c) (hhi : hi ≤ w.heap.size) (hmc : c.length ≤ 1048576) :
    Calls Tryd.prog 10 #[aggMo M va, vc, .int .i64 st] w fun e w' => e = .returned (.tuple #[.int .i64 (crV M c st).1, .int .i64 (crV M c st).2]) ∧ Below w.heap.size w w' := by
  obtain ⟨sa, sc, rfl, _, hmx⟩ := hA.shape
  obtain ⟨ca, cc, rfl, hcc, hcm⟩ := hC.shape
  clear hmx hcc hcm
  have H1 : Hid (certB M = false → crV M c st = (-1, 0)) := Lib.hid crV_no1
  have H2 : Hid (codeV c = false → crV M c st = (-1, 0)) := Lib.hid crV_no2
  have H3 : Hid (inB st 0 (M.n - 1) = false → crV M c st = (-1, 0)) := Lib.hid crV_no3
  have H4 : Hid (certB M = true → codeV c = true → inB st 0 (M.n - 1) = true → crV M c st = runV (machM M) c M.n.toNat st.toNat) := Lib.hid crV_at
  obtain ⟨R, hR⟩ : ∃ R, R = crV M c st := ⟨_, rfl⟩
  rw [← hR] at H1 H2 H3 H4 ⊢
  clear hR
  have HC0 := Lib.hid (spec_Certain la ha M (.slice sa M.acts.length sc))
  obtain ⟨w0, hw0⟩ : ∃ w0, w0 = w.alloc (.cells #[.int .i64 M.n, .int .i64 M.p, .int .i64 M.q, .slice sa M.acts.length sc] 25) := ⟨_, rfl⟩
  obtain ⟨hb0, KB_, hs0⟩ := box_facts3 hw0
  have KB := Lib.hid KB_
  have HB := Lib.hid hb0
  have HA := Lib.hid (hA.below hb0 hha)
  have HX := Lib.hid (hC.below hb0 hhi)
  have HM2 := Lib.hid hm2
  have HW := Lib.hid hw0
  have k0 := KB.out.cell 0
  have k1 := KB.out.cell 1
  have k2 := KB.out.cell 2
  have k3 := KB.out.cell 3
  clear hA hC hm2 hb0 KB_ hw0
  go_enter Tryd.func10, Tryd.ntmps10
  go_upto_region 1 with (rw [← HW.out])
  try rw [← HW.out]
  go_wp2_with fail
  refine (HC0.out w0 HA.out (by omega) hm HM2.out).mono ?_
  rintro e1 w1 ⟨rfl, hb1⟩
  clear k0 k1 k2 k3 HW HC0
  have hs1 := hb1.size
  replace KB := Lib.hid (KB.out.below hb1 KB.out.lt)
  replace HA := Lib.hid (HA.out.below hb1 (by omega))
  replace HX := Lib.hid (HX.out.below hb1 (by omega))
  replace HB := Lib.hid (HB.out.trans (hb1.mono (by omega)))
  clear hb1
  cases h1 : certB M
  · have HE := Lib.hid (H1.out h1)
    clear h1
    go_wp2
    go_ret2
    rw [HE.out]
    exact ⟨rfl, HB.out⟩
  · replace H4 := Lib.hid (H4.out h1)
    have HCe := Lib.hid h1
    clear H1 h1
    go_wp2_with fail
    refine (spec_CodeValid lo hi _ c w1 HX.out (by omega) hmc).mono ?_
    rintro e2 w2 ⟨rfl, hb2⟩
    have hs2 := hb2.size
    replace KB := Lib.hid (KB.out.below hb2 KB.out.lt)
    replace HA := Lib.hid (HA.out.below hb2 (by omega))
    replace HX := Lib.hid (HX.out.below hb2 (by omega))
    replace HB := Lib.hid (HB.out.trans (hb2.mono (by omega)))
    clear hb2
    cases h2 : codeV c
    · have HE := Lib.hid (H2.out h2)
      clear h2
      go_wp2
      go_ret2
      rw [HE.out]
      exact ⟨rfl, HB.out⟩
    · replace H4 := Lib.hid (H4.out h2)
      have HCo := Lib.hid (codeV_iff.1 h2)
      have hnb := certB_n HCe.out
      obtain ⟨hnb1, hnb5⟩ := hnb
      have k0 := KB.out.cell 0
      have k1 := KB.out.cell 1
      have k2 := KB.out.cell 2
      have k3 := KB.out.cell 3
      clear H2 h2
      go_wp2_with fail
      (with_reducible refine (l1In_any st 0 (M.n - 1) _).mono ?_)
      rintro e3 _ ⟨rfl, rfl⟩
      clear k0 k1 k2 k3
      cases h3 : inB st 0 (M.n - 1)
      · have HE := Lib.hid (H3.out h3)
        clear h3
        go_wp2
        go_ret2
        rw [HE.out]
        exact ⟨rfl, HB.out⟩
      · replace H4 := Lib.hid (H4.out h3)
        clear H3
        obtain ⟨n', P', Q', acts⟩ := M
        obtain ⟨n, p, q, e1, e2, e3, hok⟩ := modB_open (certB_mod HCe.out)
        simp only at e1 e2 e3 hok
        subst e1 e2 e3
        have hn1 := hok.n1
        have hn5 := hok.n5
        obtain ⟨hp2, hq2⟩ := hok.small
        obtain ⟨s0, rfl⟩ : ∃ s0 : Nat, st = s0 := ⟨st.toNat, by simp [inB] at h3; omega⟩
        have hs0n : s0 < n := by simp [inB] at h3; omega
        simp only [Int.toNat_natCast] at H4 KB HA hm HM2
        have hcl := HCo.out.most
        have hcp := HCo.out.pos
        obtain ⟨N, hN⟩ : ∃ N : Nat, N = c.length * n := ⟨_, rfl⟩
        have hN2 : N ≤ 200 := by rw [hN]; exact Nat.le_trans (Nat.mul_le_mul hcl hn5) (by decide)
        have hmul : (n : Int) * (c.length : Int) = (N : Int) := by rw [hN, Int.mul_comm]; push_cast; rfl
        have HG0 := Lib.hid (Goes.start (machM ⟨(n : Int), (p : Int), (q : Int), acts⟩) c N s0)
        have HD : Hid (∀ a s d : Nat, Goes (machM ⟨(n : Int), (p : Int), (q : Int), acts⟩) c N s0 d a s → d ≤ N → stepC (machM ⟨(n : Int), (p : Int), (q : Int), acts⟩) c (a, s) = none → R = ((s : Int), (d : Int))) := Lib.hid (fun a s d h1 h2 h3 => by
          rw [H4.out]
          exact runV_some (by rw [← hN]; exact h1.done h2 h3))
        have HO : Hid (∀ a s d : Nat, Goes (machM ⟨(n : Int), (p : Int), (q : Int), acts⟩) c N s0 d a s → N < d → R = (-1, 0)) := Lib.hid (fun a s d h1 h2 => by
          rw [H4.out]
          exact runV_none (by rw [← hN]; exact h1.over h2))
        have HOk := Lib.hid hok
        clear H4 h3 hok hN
        obtain ⟨gM, hgM⟩ : ∃ gM, gM = w.heap.size := ⟨_, rfl⟩
        have hgM2 : gM < w2.heap.size := by have := KB.out.lt; omega
        rw [← hgM] at KB
        go_upto_region 4 with fail
        simp only [← hgM]
        clear hgM
        go_wp2
        go_loopw [2, 8, 9] (fun sv av dv wr => ∃ s a d : Nat, sv = .int .i64 s ∧ av = .int .i64 a ∧ dv = .int .i64 d ∧ s < n ∧ a < c.length ∧ d ≤ N + 1 ∧ 1 ≤ d ∧ Hid (Goes (machM (⟨(n : Int), (p : Int), (q : Int), acts⟩ : Mo)) c N s0 d a s) ∧ Hid (Below w2.heap.size w2 wr)) (fun _ _ d _ => N + 1 - (intOf d).toNat)
        case atStart => exact ⟨s0, 0, 1, rfl, rfl, rfl, hs0n, by omega, by omega, by omega, HG0, Lib.hid (Below.refl _ _)⟩
        case round =>
          obtain ⟨s, a, d, rfl, rfl, rfl, hsn, hac, hdN, hd1, HG, HQ⟩ := hrel
          clear HG0
          have hsr := HQ.out.size
          have KR := Lib.hid (KB.out.below HQ.out hgM2)
          have m0 := KR.out.cell 0
          have m1 := KR.out.cell 1
          have m2 := KR.out.cell 2
          have m3 := KR.out.cell 3
          by_cases hlt : d ≤ N
          · have hltd : decide ((d : Int) ≤ (N : Int)) = true := decide_eq_true (by omega)
            obtain ⟨b, off, rfl, _, hbh, hbs, q0, q1, q2⟩ := (HX.out.below HQ.out (by omega)).get a hac
            have hins := HCo.out.ins a hac
            have hto := fun h => HCo.out.to_lt hac h
            have hsu := fun h => HCo.out.succ_lt hac h
            obtain ⟨x, hx⟩ : ∃ x, x = insAt c a := ⟨_, rfl⟩
            have hx' : x = c[a] := by rw [hx, insAt_get hac]
            have S0 : Hid (x.kind = 0 → stepC (machM (⟨(n : Int), (p : Int), (q : Int), acts⟩ : Mo)) c (a, s) = some (a + 1, tzN (actN (⟨(n : Int), (p : Int), (q : Int), acts⟩ : Mo) x.arg s))) := Lib.hid fun h => by rw [hx] at h ⊢; exact stepC_do h
            have S1 : Hid (x.kind = 1 → (machM (⟨(n : Int), (p : Int), (q : Int), acts⟩ : Mo)).tst x.arg s = true → stepC (machM (⟨(n : Int), (p : Int), (q : Int), acts⟩ : Mo)) c (a, s) = some (a + 1, s)) := Lib.hid fun h h2 => by rw [hx] at h h2; exact stepC_yes h h2
            have S2 : Hid (x.kind = 1 → (machM (⟨(n : Int), (p : Int), (q : Int), acts⟩ : Mo)).tst x.arg s = false → stepC (machM (⟨(n : Int), (p : Int), (q : Int), acts⟩ : Mo)) c (a, s) = some (x.to.toNat, s)) := Lib.hid fun h h2 => by rw [hx] at h h2 ⊢; exact stepC_no h h2
            have S3 : Hid (x.kind = 2 → stepC (machM (⟨(n : Int), (p : Int), (q : Int), acts⟩ : Mo)) c (a, s) = some (x.to.toNat, s)) := Lib.hid fun h => by rw [hx] at h ⊢; exact stepC_jump h
            have S4 : Hid (x.kind = 3 → stepC (machM (⟨(n : Int), (p : Int), (q : Int), acts⟩ : Mo)) c (a, s) = none) := Lib.hid fun h => by rw [hx] at h; exact stepC_end h
            rw [← hx] at hins hto hsu
            rw [← hx'] at q0 q1 q2
            clear hx hx'
            obtain ⟨kd, ar, tt⟩ := x
            simp only at q0 q1 q2 hto hsu
            have hki := insB_kind hins
            simp only at hki
            obtain ⟨wx, hwx⟩ : ∃ wx, wx = wr.alloc (.cells #[.int .i64 kd, .int .i64 ar, .int .i64 tt] 33) := ⟨_, rfl⟩
            obtain ⟨hbx, KX_, hsx⟩ := box_facts3 hwx
            have KX := Lib.hid KX_
            have HWX := Lib.hid hwx
            have HQX := Lib.hid (HQ.out.trans (hbx.mono (by omega)))
            have KMX := Lib.hid (KR.out.below hbx KR.out.lt)
            clear KX_ hwx hbx
            rcases hki with rfl | rfl | rfl | rfl
            · have har := insB_act hins rfl
              simp only at har
              have HN := Lib.hid (HG.out.next hlt (S0.out rfl))
              have ha1 : a + 1 < c.length := hsu (by decide)
              clear S0 S1 S2 S3 S4 hins hto hsu HG
              obtain ⟨hso, _⟩ := certB_at HCe.out har.1 har.2 (by show s < Int.toNat (n : Int); omega)
              obtain ⟨y, hy⟩ : ∃ y, y = actN (⟨(n : Int), (p : Int), (q : Int), acts⟩ : Mo) ar s := ⟨_, rfl⟩
              have htz : tzN y < n := by
                rw [hy]
                have h := certB_at HCe.out har.1 har.2 (by show s < Int.toNat (n : Int); omega)
                exact tz_lt h.1 h.2
              rw [← hy] at HN hso
              have hal := HOk.out.len
              have HRow : Hid (∀ j : Nat, (hj : j < acts.length) → ar = 16 + (j : Int) → acts[j].length = n ∧ ∀ h : s < acts[j].length, acts[j][s] = (y : Int)) := Lib.hid fun j hj ha => by
                have hr := HOk.out.rows j hj
                have hl : acts[j].length = n := by simp only [rowsB, Bool.and_eq_true, decide_eq_true_eq] at hr; omega
                refine ⟨hl, fun h => ?_⟩
                obtain ⟨z, hz, _⟩ := modB_el (M := (⟨(n : Int), (p : Int), (q : Int), acts⟩ : Mo)) HOk.out.mod (k := j) (j := s) hj h
                have h1 : (ar - 16).toNat = j := by omega
                rw [hy, actN, h1]
                simp only [List.getD, List.getElem?_eq_getElem hj, Option.getD_some, List.getElem?_eq_getElem h]
                simp only at hz
                rw [hz, Int.toNat_natCast]
              clear hy
              obtain ⟨j, hjl, hje, hj3⟩ : ∃ j : Nat, j < acts.length ∧ ar = 16 + (j : Int) ∧ (j = 0 ∨ j = 1 ∨ j = 2) := ⟨(ar - 16).toNat, by omega, by omega, by omega⟩
              obtain ⟨hrl, hre⟩ := HRow.out j hjl hje
              obtain ⟨b1, o1, u, rfl, _, hlo1, hlo2, p0, hrow⟩ := (HA.out.below HQX.out (by omega)).get j hjl
              obtain ⟨ra, rc, rfl, _, _⟩ := Sl.shape hrow
              obtain ⟨b2, o2, rfl, _, _, _, p1⟩ := hrow.get s (by omega)
              rw [hre (by omega)] at p1
              rw [hrl] at p0
              have y0 := KMX.out.cell 0
              have y1 := KMX.out.cell 1
              have y2 := KMX.out.cell 2
              have y3 := KMX.out.cell 3
              have x0 := KX.out.cell 0
              have x1 := KX.out.cell 1
              have x2 := KX.out.cell 2
              have hy1 : IntKind.u64.wrap (y : Int) = y := by
                have : y < 32 := by rcases sole_iff.1 hso with rfl | rfl | rfl | rfl | rfl <;> decide
                simp [IntKind.wrap, IntKind.bits, IntKind.signed]; omega
              clear HRow hrow hre hrl har hal
              have HB1 : Hid (∀ k, k = tzN y → bitI y k = 1) := Lib.hid fun k h => by unfold bitI; rw [if_pos ((sole_bit hso).2 h)]
              have HB0 : Hid (∀ k, ¬ k = tzN y → bitI y k = 0) := Lib.hid fun k h => by unfold bitI; rw [if_neg (fun h2 => h ((sole_bit hso).1 h2))]
              have hy32 : y < 32 := by rcases sole_iff.1 hso with rfl | rfl | rfl | rfl | rfl <;> decide
              have hT5 := (sole_tz hso).2
              obtain ⟨T, hTe⟩ : ∃ T, T = tzN y := ⟨_, rfl⟩
              rw [← hTe] at HB1 HB0 HN htz hT5
              clear hTe hso hy1
              rcases hj3 with rfl | rfl | rfl
              · obtain rfl : ar = 16 := by omega
                clear hje
                rw [HWX.out] at p0 p1 x0 x1 x2 y0 y1 y2 y3
                simp only [Nat.add_zero] at p0
                go_wp2
                go_loop [2] (fun sv => ∃ k : Nat, k ≤ T ∧ sv = .int .i64 k) (fun sv => T - (intOf sv).toNat)
                case atStart => exact ⟨0, by omega, rfl⟩
                case round =>
                  obtain ⟨k, hkT, rfl⟩ := hrel
                  by_cases hke : k = T
                  · have HC := Lib.hid (l1BitG y k (by omega) (by omega))
                    rw [HB1.out k hke] at HC
                    subst hke
                    go_wp2_with fail
                    refine (HC.out _).mono ?_
                    rintro e _ ⟨rfl, rfl⟩
                    go_wp2
                    go_roundw
                    case rel => exact ⟨k, a + 1, d + 1, rfl, by go_num, by go_num, htz, ha1, by omega, by omega, HN, Lib.hid (by rw [← HWX.out]; exact HQX.out)⟩
                    case measure => simp [intOf]; omega
                  · have HC := Lib.hid (l1BitG y k (by omega) (by omega))
                    rw [HB0.out k hke] at HC
                    have hkl : k < T := by omega
                    clear hke
                    go_wp2_with fail
                    refine (HC.out _).mono ?_
                    rintro e _ ⟨rfl, rfl⟩
                    go_wp2
                    go_round
                    case rel => exact ⟨k + 1, by omega, by go_num⟩
                    case measure => simp [intOf]; omega
              · obtain rfl : ar = 17 := by omega
                clear hje
                rw [HWX.out] at p0 p1 x0 x1 x2 y0 y1 y2 y3
                go_wp2
                go_loop [2] (fun sv => ∃ k : Nat, k ≤ T ∧ sv = .int .i64 k) (fun sv => T - (intOf sv).toNat)
                case atStart => exact ⟨0, by omega, rfl⟩
                case round =>
                  obtain ⟨k, hkT, rfl⟩ := hrel
                  by_cases hke : k = T
                  · have HC := Lib.hid (l1BitG y k (by omega) (by omega))
                    rw [HB1.out k hke] at HC
                    subst hke
                    go_wp2_with fail
                    refine (HC.out _).mono ?_
                    rintro e _ ⟨rfl, rfl⟩
                    go_wp2
                    go_roundw
                    case rel => exact ⟨k, a + 1, d + 1, rfl, by go_num, by go_num, htz, ha1, by omega, by omega, HN, Lib.hid (by rw [← HWX.out]; exact HQX.out)⟩
                    case measure => simp [intOf]; omega
                  · have HC := Lib.hid (l1BitG y k (by omega) (by omega))
                    rw [HB0.out k hke] at HC
                    have hkl : k < T := by omega
                    clear hke
                    go_wp2_with fail
                    refine (HC.out _).mono ?_
                    rintro e _ ⟨rfl, rfl⟩
                    go_wp2
                    go_round
                    case rel => exact ⟨k + 1, by omega, by go_num⟩
                    case measure => simp [intOf]; omega
              · obtain rfl : ar = 18 := by omega
                clear hje
                rw [HWX.out] at p0 p1 x0 x1 x2 y0 y1 y2 y3
                go_wp2
                go_loop [2] (fun sv => ∃ k : Nat, k ≤ T ∧ sv = .int .i64 k) (fun sv => T - (intOf sv).toNat)
                case atStart => exact ⟨0, by omega, rfl⟩
                case round =>
                  obtain ⟨k, hkT, rfl⟩ := hrel
                  by_cases hke : k = T
                  · have HC := Lib.hid (l1BitG y k (by omega) (by omega))
                    rw [HB1.out k hke] at HC
                    subst hke
                    go_wp2_with fail
                    refine (HC.out _).mono ?_
                    rintro e _ ⟨rfl, rfl⟩
                    go_wp2
                    go_roundw
                    case rel => exact ⟨k, a + 1, d + 1, rfl, by go_num, by go_num, htz, ha1, by omega, by omega, HN, Lib.hid (by rw [← HWX.out]; exact HQX.out)⟩
                    case measure => simp [intOf]; omega
                  · have HC := Lib.hid (l1BitG y k (by omega) (by omega))
                    rw [HB0.out k hke] at HC
                    have hkl : k < T := by omega
                    clear hke
                    go_wp2_with fail
                    refine (HC.out _).mono ?_
                    rintro e _ ⟨rfl, rfl⟩
                    go_wp2
                    go_round
                    case rel => exact ⟨k + 1, by omega, by go_num⟩
                    case measure => simp [intOf]; omega
            · have har := insB_test hins rfl
              simp only at har
              obtain ⟨tn, rfl⟩ : ∃ tn : Nat, ar = tn := ⟨ar.toNat, by omega⟩
              have htn : tn < 16 := by omega
              have ha1 : a + 1 < c.length := hsu (by decide)
              have ha2 := hto (Or.inl rfl)
              have htt := (insB_to hins (Or.inl rfl)).1
              simp only at htt
              obtain ⟨t, rfl⟩ : ∃ t : Nat, tt = t := ⟨tt.toNat, by omega⟩
              rw [Int.toNat_natCast] at ha2
              have HN1 : Hid (tn.testBit (atomN (⟨(n : Int), (p : Int), (q : Int), acts⟩ : Mo) s) = true → Goes (machM (⟨(n : Int), (p : Int), (q : Int), acts⟩ : Mo)) c N s0 (d + 1) (a + 1) s) := Lib.hid fun h => HG.out.next hlt (S1.out rfl h)
              have HN2 : Hid (tn.testBit (atomN (⟨(n : Int), (p : Int), (q : Int), acts⟩ : Mo) s) = false → Goes (machM (⟨(n : Int), (p : Int), (q : Int), acts⟩ : Mo)) c N s0 (d + 1) t s) := Lib.hid fun h => HG.out.next hlt (S2.out rfl h)
              clear S0 S1 S2 S3 S4 hins hto hsu HG har
              have y0 := KMX.out.cell 0
              have y1 := KMX.out.cell 1
              have y2 := KMX.out.cell 2
              have y3 := KMX.out.cell 3
              have x0 := KX.out.cell 0
              have x1 := KX.out.cell 1
              have x2 := KX.out.cell 2
              have hgx := KMX.out.lt
              have hgr := KX.out.lt
              have hbc : (bitI tn (atomN (⟨(n : Int), (p : Int), (q : Int), acts⟩ : Mo) s) = 0 ∧ Hid (Goes (machM (⟨(n : Int), (p : Int), (q : Int), acts⟩ : Mo)) c N s0 (d + 1) t s)) ∨ (bitI tn (atomN (⟨(n : Int), (p : Int), (q : Int), acts⟩ : Mo) s) = 1 ∧ Hid (Goes (machM (⟨(n : Int), (p : Int), (q : Int), acts⟩ : Mo)) c N s0 (d + 1) (a + 1) s)) := by
                cases hb : tn.testBit (atomN (⟨(n : Int), (p : Int), (q : Int), acts⟩ : Mo) s)
                · exact .inl ⟨by unfold bitI; rw [hb]; rfl, Lib.hid (HN2.out hb)⟩
                · exact .inr ⟨by unfold bitI; rw [hb]; rfl, Lib.hid (HN1.out hb)⟩
              have hal := HOk.out.len
              have HC := Lib.hid (l1BitG tn (atomN (⟨(n : Int), (p : Int), (q : Int), acts⟩ : Mo) s) (by omega) (by have := atomN_lt (⟨(n : Int), (p : Int), (q : Int), acts⟩ : Mo) s; omega))
              have HAt := Lib.hid (fun w hA hha => (spec_AtomOf la ha n p q s acts (.slice sa acts.length sc) w HOk.out hsn hA hha hm HM2.out))
              have HAX := Lib.hid (HA.out.below HQX.out (by omega))
              have hhx : ha ≤ wx.heap.size := by omega
              obtain ⟨at_, hat⟩ : ∃ at_, at_ = atomN (⟨(n : Int), (p : Int), (q : Int), acts⟩ : Mo) s := ⟨_, rfl⟩
              rw [← hat] at hbc HC HAt
              clear HN1 HN2 hat hal
              rcases hbc with ⟨hbv, HN⟩ | ⟨hbv, HN⟩ <;> rw [hbv] at HC <;> clear hbv
              all_goals
                go_upto_region 19 with (rw [← HWX.out])
                try rw [← HWX.out]
                go_region_held3 (fun w' => w'.cell? ⟨gM, 0, none⟩ = some (.int .i64 (n : Int)) ∧ w'.cell? ⟨gM, 1, none⟩ = some (.int .i64 (p : Int)) ∧ w'.cell? ⟨gM, 2, none⟩ = some (.int .i64 (q : Int)) ∧ w'.cell? ⟨gM, 3, none⟩ = some (.slice sa acts.length sc) ∧ w'.cell? ⟨wr.heap.size, 1, none⟩ = some (.int .i64 (tn : Int))) (first | with_reducible assumption | go_keep) (first
                  | (go_at_call 46; refine (HAt.out wx.drew (HAX.out.below (Below.drew (Below.refl _ _)) hhx) hhx).mono ?_; rintro e4 w4 ⟨rfl, hb4⟩; (have k4_ := Blk.below KMX.out.dr hb4 hgx); (have a0 := k4_.cell 0); (have a1 := k4_.cell 1); (have a2 := k4_.cell 2); (have a3 := k4_.cell 3); (have k5_ := Blk.below KX.out.dr hb4 hgr); (have b1 := k5_.cell 1); (have b2 := k5_.cell 2); (have HQ4 := Lib.hid ((Below.drew HQX.out).trans (hb4.mono (Nat.le_trans HQX.out.size (Nat.le_refl _))))); clear k4_ k5_ hb4)
                  | (go_at_call 45; refine (HC.out _).mono ?_; rintro e5 _ ⟨rfl, rfl⟩))
                clear x0 x1 x2 y0 y1 y2 y3
                go_wp2
                go_roundw
                case rel => first | exact ⟨s, t, d + 1, rfl, rfl, by go_num, hsn, ha2, by omega, by omega, HN, HQ4⟩ | exact ⟨s, a + 1, d + 1, rfl, by go_num, by go_num, hsn, ha1, by omega, by omega, HN, HQ4⟩
                case measure => simp [intOf]; omega
            · have ha2 := hto (Or.inr rfl)
              have htt := (insB_to hins (Or.inr rfl)).1
              simp only at htt
              obtain ⟨t, rfl⟩ : ∃ t : Nat, tt = t := ⟨tt.toNat, by omega⟩
              rw [Int.toNat_natCast] at ha2
              have HN := Lib.hid (HG.out.next hlt (S3.out rfl))
              clear S0 S1 S2 S3 S4 hins hto hsu HG
              have x0 := KX.out.cell 0
              have x1 := KX.out.cell 1
              have x2 := KX.out.cell 2
              rw [HWX.out] at x0 x1 x2
              go_wp2
              go_roundw
              case rel => exact ⟨s, t, d + 1, rfl, rfl, by go_num, hsn, ha2, by omega, by omega, HN, Lib.hid (by rw [← HWX.out]; exact HQX.out)⟩
              case measure => simp [intOf]; omega
            · have HE := Lib.hid (HD.out a s d HG.out hlt (S4.out rfl))
              clear S0 S1 S2 S3 S4 hins hto hsu HG
              have x0 := KX.out.cell 0
              have x1 := KX.out.cell 1
              have x2 := KX.out.cell 2
              rw [HWX.out] at x0 x1 x2
              go_wp2
              go_ret2
              rw [HE.out]
              exact ⟨rfl, HB.out.trans ((by rw [← HWX.out]; exact HQX.out : Below w2.heap.size w2 _).mono (by omega))⟩
          · have hltd : decide ((d : Int) ≤ (N : Int)) = false := decide_eq_false (by omega)
            have HE := Lib.hid (HO.out a s d HG.out (by omega))
            clear HG
            go_wp2
            go_ret2
            rw [HE.out]
            exact ⟨rfl, HB.out.trans (HQ.out.mono (by omega))⟩
end Go.Proofs.YtoondakdjhhehaaDoor
