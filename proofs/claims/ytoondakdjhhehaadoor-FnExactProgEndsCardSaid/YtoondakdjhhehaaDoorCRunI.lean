/-
  Texts of walks and plain lemmas for this seat; no condition.
-/
import Derived.Test.YtoondakdjhhehaaDoorCertI
import Derived.Test.YtoondakdjhhehaaDoorTzK
import Derived.Test.YtoondakdjhhehaaDoorCVal
import Derived.Test.YtoondakdjhhehaaDoorGQ
import Derived.Deep.QuietTactic
namespace Go.Proofs.YtoondakdjhhehaaDoor
open Go.RowKit

theorem crV_no1 {M : Mo} {c : List In3} {st : Int} (h : certB M = false) : crV M c st = (-1, 0) := by simp [crV, h]
theorem crV_no2 {M : Mo} {c : List In3} {st : Int} (h : codeV c = false) : crV M c st = (-1, 0) := by simp [crV, h]
theorem crV_no3 {M : Mo} {c : List In3} {st : Int} (h : inB st 0 (M.n - 1) = false) : crV M c st = (-1, 0) := by simp [crV, h]
theorem crV_at {M : Mo} {c : List In3} {st : Int} (h1 : certB M = true) (h2 : codeV c = true) (h3 : inB st 0 (M.n - 1) = true) : crV M c st = runV (machM M) c M.n.toNat st.toNat := by simp [crV, h1, h2, h3]

theorem insB_test {n : Int} {x : In3} (h : insB n x = true) (hk : x.kind = 1) : 0 ≤ x.arg ∧ x.arg ≤ 15 := by
  unfold insB at h
  rw [if_neg (by omega), if_pos hk] at h
  simp only [Bool.and_eq_true, inB, decide_eq_true_eq] at h
  exact h.1
set_option maxRecDepth 100000 in
set_option maxHeartbeats 3200000 in
theorem impl_CodeRun (la ha lo hi : Nat) (M : Mo) (va vc : Value) (c : List In3) (st : Int) (w : World) (hT : TabT w) (hA : SlLL la ha w va M.acts) (hha : ha ≤ w.heap.size) (hm : M.acts.length ≤ 1048576) (hm2 : ∀ x ∈ M.acts, x.length ≤ 1048576)
    (hC : SlC lo hi w vc c) (hhi : hi ≤ w.heap.size) (hmc : c.length ≤ 1048576) :
    Calls Tryd.prog 9 #[aggMo M va, vc, .int .i64 st] w fun e w' => e = .returned (.tuple #[.int .i64 (crV M c st).1, .int .i64 (crV M c st).2]) ∧ Below w.heap.size w w' := by
  obtain ⟨sa, sc, rfl, _, hmx⟩ := hA.shape
  obtain ⟨ca, cc, rfl, hcc, hcm⟩ := hC.shape
  clear hmx hcc hcm
  have H1 : Hid (certB M = false → crV M c st = (-1, 0)) := Lib.hid crV_no1
  have H2 : Hid (codeV c = false → crV M c st = (-1, 0)) := Lib.hid crV_no2
  have H3 : Hid (inB st 0 (M.n - 1) = false → crV M c st = (-1, 0)) := Lib.hid crV_no3
  have H4 : Hid (certB M = true → codeV c = true → inB st 0 (M.n - 1) = true → crV M c st = runV (machM M) c M.n.toNat st.toNat) := Lib.hid crV_at
  obtain ⟨R, hR⟩ : ∃ R, R = crV M c st := ⟨_, rfl⟩
  rw [← hR] at H1 H2 H3 H4 ⊢
  clear hR
  have HC0 := Lib.hid (impl_Certain la ha M (.slice sa M.acts.length sc))
  obtain ⟨w0, hw0⟩ : ∃ w0, w0 = w.alloc (.cells #[.int .i64 M.n, .int .i64 M.p, .int .i64 M.q, .slice sa M.acts.length sc] 25) := ⟨_, rfl⟩
  obtain ⟨hb0, KB_, hs0⟩ := box_facts3 hw0
  have KB := Lib.hid KB_
  have HB := Lib.hid hb0
  have HA := Lib.hid (hA.below hb0 hha)
  have HX := Lib.hid (hC.below hb0 hhi)
  have HT := Lib.hid (hT.below hb0)
  have HM2 := Lib.hid hm2
  have HW := Lib.hid hw0
  have k0 := KB.out.cell 0
  have k1 := KB.out.cell 1
  have k2 := KB.out.cell 2
  have k3 := KB.out.cell 3
  clear hA hC hT hm2 hb0 KB_ hw0
  go_enter Tryd.func9, Tryd.ntmps9
  go_upto_region 1 with (rw [← HW.out])
  try rw [← HW.out]
  go_wp2_with fail
  refine (HC0.out w0 HA.out (by omega) hm HM2.out).mono ?_
  rintro e1 w1 ⟨rfl, hb1⟩
  clear k0 k1 k2 k3 HW HC0
  have hs1 := hb1.size
  replace KB := Lib.hid (KB.out.below hb1 KB.out.lt)
  replace HA := Lib.hid (HA.out.below hb1 (by omega))
  replace HX := Lib.hid (HX.out.below hb1 (by omega))
  replace HT := Lib.hid (HT.out.below hb1)
  replace HB := Lib.hid (HB.out.trans (hb1.mono (by omega)))
  clear hb1
  cases h1 : certB M
  · have HE := Lib.hid (H1.out h1)
    clear h1
    go_wp2
    go_ret2
    rw [HE.out]
    exact ⟨rfl, HB.out⟩
  · replace H4 := Lib.hid (H4.out h1)
    have HCe := Lib.hid h1
    clear H1 h1
    go_wp2_with fail
    refine (impl_CodeValid lo hi _ c w1 HX.out (by omega) hmc).mono ?_
    rintro e2 w2 ⟨rfl, hb2⟩
    have hs2 := hb2.size
    replace KB := Lib.hid (KB.out.below hb2 KB.out.lt)
    replace HA := Lib.hid (HA.out.below hb2 (by omega))
    replace HX := Lib.hid (HX.out.below hb2 (by omega))
    replace HT := Lib.hid (HT.out.below hb2)
    replace HB := Lib.hid (HB.out.trans (hb2.mono (by omega)))
    clear hb2
    cases h2 : codeV c
    · have HE := Lib.hid (H2.out h2)
      clear h2
      go_wp2
      go_ret2
      rw [HE.out]
      exact ⟨rfl, HB.out⟩
    · replace H4 := Lib.hid (H4.out h2)
      have HCo := Lib.hid (codeV_iff.1 h2)
      have k0 := KB.out.cell 0
      have k1 := KB.out.cell 1
      have k2 := KB.out.cell 2
      have k3 := KB.out.cell 3
      clear H2 h2
      go_wp2_with fail
      refine (impl_hasState M _ st w2 ⟨_, _, _, rfl⟩).mono ?_
      rintro e3 w3 ⟨rfl, hb3⟩
      clear k0 k1 k2 k3
      have hs3 := hb3.size
      replace KB := Lib.hid (KB.out.below hb3 KB.out.lt)
      replace HA := Lib.hid (HA.out.below hb3 (by omega))
      replace HX := Lib.hid (HX.out.below hb3 (by omega))
      replace HT := Lib.hid (HT.out.below hb3)
      replace HB := Lib.hid (HB.out.trans (hb3.mono (by omega)))
      clear hb3
      cases h3 : inB st 0 (M.n - 1)
      · have HE := Lib.hid (H3.out h3)
        clear h3
        go_wp2
        go_ret2
        rw [HE.out]
        exact ⟨rfl, HB.out⟩
      · replace H4 := Lib.hid (H4.out h3)
        clear H3
        obtain ⟨n', P', Q', acts⟩ := M
        obtain ⟨n, p, q, e1, e2, e3, hok⟩ := modB_open (certB_mod HCe.out)
        simp only at e1 e2 e3 hok
        subst e1 e2 e3
        have hn1 := hok.n1
        have hn5 := hok.n5
        obtain ⟨hp2, hq2⟩ := hok.small
        obtain ⟨s0, rfl⟩ : ∃ s0 : Nat, st = s0 := ⟨st.toNat, by simp [inB] at h3; omega⟩
        have hs0n : s0 < n := by simp [inB] at h3; omega
        simp only [Int.toNat_natCast] at H4 KB HA hm HM2
        have hcl := HCo.out.most
        have hcp := HCo.out.pos
        obtain ⟨N, hN⟩ : ∃ N : Nat, N = c.length * n := ⟨_, rfl⟩
        have hN2 : N ≤ 200 := by rw [hN]; exact Nat.le_trans (Nat.mul_le_mul hcl hn5) (by decide)
        have hmul : (c.length : Int) * (n : Int) = (N : Int) := by rw [hN]; push_cast; rfl
        have HG0 := Lib.hid (Goes.start (machM ⟨(n : Int), (p : Int), (q : Int), acts⟩) c N s0)
        have HD : Hid (∀ a s d : Nat, Goes (machM ⟨(n : Int), (p : Int), (q : Int), acts⟩) c N s0 d a s → d ≤ N → stepC (machM ⟨(n : Int), (p : Int), (q : Int), acts⟩) c (a, s) = none → R = ((s : Int), (d : Int))) := Lib.hid (fun a s d h1 h2 h3 => by
          rw [H4.out]
          exact runV_some (by rw [← hN]; exact h1.done h2 h3))
        have HO : Hid (∀ a s d : Nat, Goes (machM ⟨(n : Int), (p : Int), (q : Int), acts⟩) c N s0 d a s → N < d → R = (-1, 0)) := Lib.hid (fun a s d h1 h2 => by
          rw [H4.out]
          exact runV_none (by rw [← hN]; exact h1.over h2))
        have HOk := Lib.hid hok
        clear H4 h3 hok hN
        obtain ⟨gM, hgM⟩ : ∃ gM, gM = w.heap.size := ⟨_, rfl⟩
        have hgM2 : gM < w3.heap.size := by have := KB.out.lt; omega
        rw [← hgM] at KB
        go_upto_region 4 with fail
        simp only [← hgM]
        clear hgM
        go_wp2
        go_loopw [2, 8, 9] (fun sv av dv wr => ∃ s a d : Nat, sv = .int .i64 s ∧ av = .int .i64 a ∧ dv = .int .i64 d ∧ s < n ∧ a < c.length ∧ d ≤ N + 1 ∧ 1 ≤ d ∧ Hid (Goes (machM (⟨(n : Int), (p : Int), (q : Int), acts⟩ : Mo)) c N s0 d a s) ∧ Hid (Below w3.heap.size w3 wr)) (fun _ _ d _ => N + 1 - (intOf d).toNat)
        case atStart => exact ⟨s0, 0, 1, rfl, rfl, rfl, hs0n, by omega, by omega, by omega, HG0, Lib.hid (Below.refl _ _)⟩
        case round =>
          obtain ⟨s, a, d, rfl, rfl, rfl, hsn, hac, hdN, hd1, HG, HQ⟩ := hrel
          clear HG0
          have hsr := HQ.out.size
          have KR := Lib.hid (KB.out.below HQ.out hgM2)
          have m0 := KR.out.cell 0
          have m1 := KR.out.cell 1
          have m2 := KR.out.cell 2
          have m3 := KR.out.cell 3
          by_cases hlt : d ≤ N
          · have hltd : decide ((d : Int) ≤ (N : Int)) = true := decide_eq_true (by omega)
            obtain ⟨b, off, rfl, _, hbh, hbs, q0, q1, q2⟩ := (HX.out.below HQ.out (by omega)).get a hac
            have hins := HCo.out.ins a hac
            have hto := fun h => HCo.out.to_lt hac h
            have hsu := fun h => HCo.out.succ_lt hac h
            obtain ⟨x, hx⟩ : ∃ x, x = insAt c a := ⟨_, rfl⟩
            have hx' : x = c[a] := by rw [hx, insAt_get hac]
            have S0 : Hid (x.kind = 0 → stepC (machM (⟨(n : Int), (p : Int), (q : Int), acts⟩ : Mo)) c (a, s) = some (a + 1, tzN (actN (⟨(n : Int), (p : Int), (q : Int), acts⟩ : Mo) x.arg s))) := Lib.hid fun h => by rw [hx] at h ⊢; exact stepC_do h
            have S1 : Hid (x.kind = 1 → (machM (⟨(n : Int), (p : Int), (q : Int), acts⟩ : Mo)).tst x.arg s = true → stepC (machM (⟨(n : Int), (p : Int), (q : Int), acts⟩ : Mo)) c (a, s) = some (a + 1, s)) := Lib.hid fun h h2 => by rw [hx] at h h2; exact stepC_yes h h2
            have S2 : Hid (x.kind = 1 → (machM (⟨(n : Int), (p : Int), (q : Int), acts⟩ : Mo)).tst x.arg s = false → stepC (machM (⟨(n : Int), (p : Int), (q : Int), acts⟩ : Mo)) c (a, s) = some (x.to.toNat, s)) := Lib.hid fun h h2 => by rw [hx] at h h2 ⊢; exact stepC_no h h2
            have S3 : Hid (x.kind = 2 → stepC (machM (⟨(n : Int), (p : Int), (q : Int), acts⟩ : Mo)) c (a, s) = some (x.to.toNat, s)) := Lib.hid fun h => by rw [hx] at h ⊢; exact stepC_jump h
            have S4 : Hid (x.kind = 3 → stepC (machM (⟨(n : Int), (p : Int), (q : Int), acts⟩ : Mo)) c (a, s) = none) := Lib.hid fun h => by rw [hx] at h; exact stepC_end h
            rw [← hx] at hins hto hsu
            rw [← hx'] at q0 q1 q2
            clear hx hx'
            obtain ⟨kd, ar, tt⟩ := x
            simp only at q0 q1 q2 hto hsu
            have hki := insB_kind hins
            simp only at hki
            obtain ⟨wx, hwx⟩ : ∃ wx, wx = wr.alloc (.cells #[.int .i64 kd, .int .i64 ar, .int .i64 tt] 33) := ⟨_, rfl⟩
            obtain ⟨hbx, KX_, hsx⟩ := box_facts3 hwx
            have KX := Lib.hid KX_
            have HWX := Lib.hid hwx
            have HQX := Lib.hid (HQ.out.trans (hbx.mono (by omega)))
            have KMX := Lib.hid (KR.out.below hbx KR.out.lt)
            clear KX_ hwx hbx
            rcases hki with rfl | rfl | rfl | rfl
            · have har := insB_act hins rfl
              simp only at har
              have HN := Lib.hid (HG.out.next hlt (S0.out rfl))
              have ha1 : a + 1 < c.length := hsu (by decide)
              clear S0 S1 S2 S3 S4 hins hto hsu HG
              obtain ⟨hso, _⟩ := certB_at HCe.out har.1 har.2 (by show s < Int.toNat (n : Int); omega)
              obtain ⟨y, hy⟩ : ∃ y, y = actN (⟨(n : Int), (p : Int), (q : Int), acts⟩ : Mo) ar s := ⟨_, rfl⟩
              have htz : tzN y < n := by
                rw [hy]
                have h := certB_at HCe.out har.1 har.2 (by show s < Int.toNat (n : Int); omega)
                exact tz_lt h.1 h.2
              rw [← hy] at HN hso
              have hal := HOk.out.len
              have HRow : Hid (∀ j : Nat, (hj : j < acts.length) → ar = 16 + (j : Int) → acts[j].length = n ∧ ∀ h : s < acts[j].length, acts[j][s] = (y : Int)) := Lib.hid fun j hj ha => by
                have hr := HOk.out.rows j hj
                have hl : acts[j].length = n := by simp only [rowsB, Bool.and_eq_true, decide_eq_true_eq] at hr; omega
                refine ⟨hl, fun h => ?_⟩
                obtain ⟨z, hz, _⟩ := modB_el (M := (⟨(n : Int), (p : Int), (q : Int), acts⟩ : Mo)) HOk.out.mod (k := j) (j := s) hj h
                have h1 : (ar - 16).toNat = j := by omega
                rw [hy, actN, h1]
                simp only [List.getD, List.getElem?_eq_getElem hj, Option.getD_some, List.getElem?_eq_getElem h]
                simp only at hz
                rw [hz, Int.toNat_natCast]
              clear hy
              have hT := Lib.hid ((HT.out.below HQX.out))
              obtain ⟨j, hjl, hje, hj3⟩ : ∃ j : Nat, j < acts.length ∧ ar = 16 + (j : Int) ∧ (j = 0 ∨ j = 1 ∨ j = 2) := ⟨(ar - 16).toNat, by omega, by omega, by omega⟩
              obtain ⟨hrl, hre⟩ := HRow.out j hjl hje
              obtain ⟨b1, o1, u, rfl, _, hlo1, hlo2, p0, hrow⟩ := (HA.out.below HQX.out (by omega)).get j hjl
              obtain ⟨ra, rc, rfl, _, _⟩ := Sl.shape hrow
              obtain ⟨b2, o2, rfl, _, _, _, p1⟩ := hrow.get s (by omega)
              rw [hre (by omega)] at p1
              rw [hrl] at p0
              have y0 := KMX.out.cell 0
              have y1 := KMX.out.cell 1
              have y2 := KMX.out.cell 2
              have y3 := KMX.out.cell 3
              have x0 := KX.out.cell 0
              have x1 := KX.out.cell 1
              have x2 := KX.out.cell 2
              have hy1 : IntKind.u64.wrap (y : Int) = y := by
                have : y < 32 := by rcases sole_iff.1 hso with rfl | rfl | rfl | rfl | rfl <;> decide
                simp [IntKind.wrap, IntKind.bits, IntKind.signed]; omega
              clear HRow hrow hre hrl har hal
              rcases hj3 with rfl | rfl | rfl
              · obtain rfl : ar = 16 := by omega
                clear hje
                rw [HWX.out] at p0 p1 x0 x1 x2 y0 y1 y2 y3
                simp only [Nat.add_zero] at p0
                go_wp2_with fail
                simp only [← HWX.out]
                refine (tz_any y wx hT.out hso).mono ?_
                rintro e _ ⟨rfl, rfl⟩
                rw [HWX.out]
                go_wp2
                go_roundw
                case rel => exact ⟨tzN y, a + 1, d + 1, rfl, by go_num, by go_num, htz, ha1, by omega, by omega, HN, Lib.hid (by rw [← HWX.out]; exact HQX.out)⟩
                case measure => simp [intOf]; omega
              · obtain rfl : ar = 17 := by omega
                clear hje
                rw [HWX.out] at p0 p1 x0 x1 x2 y0 y1 y2 y3
                go_wp2_with fail
                simp only [← HWX.out]
                refine (tz_any y wx hT.out hso).mono ?_
                rintro e _ ⟨rfl, rfl⟩
                rw [HWX.out]
                go_wp2
                go_roundw
                case rel => exact ⟨tzN y, a + 1, d + 1, rfl, by go_num, by go_num, htz, ha1, by omega, by omega, HN, Lib.hid (by rw [← HWX.out]; exact HQX.out)⟩
                case measure => simp [intOf]; omega
              · obtain rfl : ar = 18 := by omega
                clear hje
                rw [HWX.out] at p0 p1 x0 x1 x2 y0 y1 y2 y3
                go_wp2_with fail
                simp only [← HWX.out]
                refine (tz_any y wx hT.out hso).mono ?_
                rintro e _ ⟨rfl, rfl⟩
                rw [HWX.out]
                go_wp2
                go_roundw
                case rel => exact ⟨tzN y, a + 1, d + 1, rfl, by go_num, by go_num, htz, ha1, by omega, by omega, HN, Lib.hid (by rw [← HWX.out]; exact HQX.out)⟩
                case measure => simp [intOf]; omega
            · have har := insB_test hins rfl
              simp only at har
              obtain ⟨tn, rfl⟩ : ∃ tn : Nat, ar = tn := ⟨ar.toNat, by omega⟩
              have htn : tn < 16 := by omega
              have ha1 : a + 1 < c.length := hsu (by decide)
              have ha2 := hto (Or.inl rfl)
              have htt := (insB_to hins (Or.inl rfl)).1
              simp only at htt
              obtain ⟨t, rfl⟩ : ∃ t : Nat, tt = t := ⟨tt.toNat, by omega⟩
              rw [Int.toNat_natCast] at ha2
              have HN1 : Hid (tn.testBit (atomN (⟨(n : Int), (p : Int), (q : Int), acts⟩ : Mo) s) = true → Goes (machM (⟨(n : Int), (p : Int), (q : Int), acts⟩ : Mo)) c N s0 (d + 1) (a + 1) s) := Lib.hid fun h => HG.out.next hlt (S1.out rfl h)
              have HN2 : Hid (tn.testBit (atomN (⟨(n : Int), (p : Int), (q : Int), acts⟩ : Mo) s) = false → Goes (machM (⟨(n : Int), (p : Int), (q : Int), acts⟩ : Mo)) c N s0 (d + 1) t s) := Lib.hid fun h => HG.out.next hlt (S2.out rfl h)
              clear S0 S1 S2 S3 S4 hins hto hsu HG har
              have y0 := KMX.out.cell 0
              have y1 := KMX.out.cell 1
              have y2 := KMX.out.cell 2
              have y3 := KMX.out.cell 3
              have x0 := KX.out.cell 0
              have x1 := KX.out.cell 1
              have x2 := KX.out.cell 2
              have hgx := KMX.out.lt
              have hgr := KX.out.lt
              go_upto_region 13 with (rw [← HWX.out])
              try rw [← HWX.out]
              go_region_held3 (fun w' => w'.cell? ⟨gM, 0, none⟩ = some (.int .i64 (n : Int)) ∧ w'.cell? ⟨gM, 1, none⟩ = some (.int .i64 (p : Int)) ∧ w'.cell? ⟨gM, 2, none⟩ = some (.int .i64 (q : Int)) ∧ w'.cell? ⟨gM, 3, none⟩ = some (.slice sa acts.length sc) ∧ w'.cell? ⟨wr.heap.size, 1, none⟩ = some (.int .i64 (tn : Int))) (first | with_reducible assumption | go_keep) (first
                | (go_at_call 43; refine (atom_any (⟨(n : Int), (p : Int), (q : Int), acts⟩ : Mo) _ s p q _ rfl rfl hp2 hq2 (by omega)).mono ?_; rintro e4 w4 ⟨rfl, hb4⟩; (have k4_ := Blk.below KMX.out.dr hb4 hgx); (have a0 := k4_.cell 0); (have a1 := k4_.cell 1); (have a2 := k4_.cell 2); (have a3 := k4_.cell 3); (have k5_ := Blk.below KX.out.dr hb4 hgr); (have b1 := k5_.cell 1); (have b2 := k5_.cell 2); (have HQ4 := Lib.hid ((Below.drew HQX.out).trans (hb4.mono (Nat.le_trans HQX.out.size (Nat.le_refl _))))); clear k4_ k5_ hb4)
                | (go_at_call 42; refine (holds_any tn (atomN (⟨(n : Int), (p : Int), (q : Int), acts⟩ : Mo) s) htn (atomN_lt (⟨(n : Int), (p : Int), (q : Int), acts⟩ : Mo) s) _).mono ?_; rintro e5 _ ⟨rfl, rfl⟩; rw [testBit_hb]))
              cases hb : tn.testBit (atomN (⟨(n : Int), (p : Int), (q : Int), acts⟩ : Mo) s)
              · have HN := Lib.hid (HN2.out hb)
                clear HN1 HN2 x0 x1 x2 y0 y1 y2 y3
                go_wp2
                go_roundw
                case rel => exact ⟨s, t, d + 1, rfl, rfl, by go_num, hsn, ha2, by omega, by omega, HN.out, HQ4⟩
                case measure => simp [intOf]; omega
              · have HN := Lib.hid (HN1.out hb)
                clear HN1 HN2 x0 x1 x2 y0 y1 y2 y3
                go_wp2
                go_roundw
                case rel => exact ⟨s, a + 1, d + 1, rfl, by go_num, by go_num, hsn, ha1, by omega, by omega, HN.out, HQ4⟩
                case measure => simp [intOf]; omega
            · have ha2 := hto (Or.inr rfl)
              have htt := (insB_to hins (Or.inr rfl)).1
              simp only at htt
              obtain ⟨t, rfl⟩ : ∃ t : Nat, tt = t := ⟨tt.toNat, by omega⟩
              rw [Int.toNat_natCast] at ha2
              have HN := Lib.hid (HG.out.next hlt (S3.out rfl))
              clear S0 S1 S2 S3 S4 hins hto hsu HG
              have x0 := KX.out.cell 0
              have x1 := KX.out.cell 1
              have x2 := KX.out.cell 2
              rw [HWX.out] at x0 x1 x2
              go_wp2
              go_roundw
              case rel => exact ⟨s, t, d + 1, rfl, rfl, by go_num, hsn, ha2, by omega, by omega, HN, Lib.hid (by rw [← HWX.out]; exact HQX.out)⟩
              case measure => simp [intOf]; omega
            · have HE := Lib.hid (HD.out a s d HG.out hlt (S4.out rfl))
              clear S0 S1 S2 S3 S4 hins hto hsu HG
              have x0 := KX.out.cell 0
              have x1 := KX.out.cell 1
              have x2 := KX.out.cell 2
              rw [HWX.out] at x0 x1 x2
              go_wp2
              go_ret2
              rw [HE.out]
              exact ⟨rfl, HB.out.trans ((by rw [← HWX.out]; exact HQX.out : Below w3.heap.size w3 _).mono (by omega))⟩
          · have hltd : decide ((d : Int) ≤ (N : Int)) = false := decide_eq_false (by omega)
            have HE := Lib.hid (HO.out a s d HG.out (by omega))
            clear HG
            go_wp2
            go_ret2
            rw [HE.out]
            exact ⟨rfl, HB.out.trans (HQ.out.mono (by omega))⟩
end Go.Proofs.YtoondakdjhhehaaDoor
