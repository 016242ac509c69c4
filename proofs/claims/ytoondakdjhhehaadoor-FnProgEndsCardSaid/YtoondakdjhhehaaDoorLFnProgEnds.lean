/-
  Texts of walks and plain lemmas for this seat; no condition.
-/
import Derived.Test.YtoondakdjhhehaaDoorGZE
import Derived.Test.YtoondakdjhhehaaDoorPgA
import Derived.Test.YtoondakdjhhehaaDoorSPgE
import Derived.Test.YtoondakdjhhehaaDoorGZF
import Derived.Test.YtoondakdjhhehaaDoorAliveT
import Derived.Test.YtoondakdjhhehaaDoorFrameT
import Derived.Deep.RegionHeld3
import Derived.Deep.DeepCutAuto
import Derived.Deep.DrawnRows
namespace Go.Proofs.YtoondakdjhhehaaDoor
open Go.RowKit
set_option linter.unusedVariables false

theorem last_word {T : PT} (h : T.ok = true) : ∃ ys l, T.post = ys ++ [l] ∧ (l < 200 ∨ ∃ (c : Nat) (a : PT), T = .wh c a ∧ l = 200 + (c : Int) ∧ c < 16) := by
  cases T with
  | one w =>
    simp only [PT.ok, inB, Bool.and_eq_true, decide_eq_true_eq] at h
    exact ⟨[], w, rfl, .inl (by omega)⟩
  | seq a b => exact ⟨_, 30, rfl, .inl (by omega)⟩
  | ite t a b =>
    simp only [PT.ok, inB, Bool.and_eq_true, decide_eq_true_eq] at h
    exact ⟨_, 100 + t, rfl, .inl (by omega)⟩
  | wh t a =>
    simp only [PT.ok, inB, Bool.and_eq_true, decide_eq_true_eq] at h
    obtain ⟨c, rfl⟩ : ∃ c : Nat, t = c := ⟨t.toNat, by omega⟩
    exact ⟨_, 200 + c, rfl, .inr ⟨c, a, rfl, rfl, by omega⟩⟩
/-- What is known where a program ends. -/
theorem ends_open {M : Mo} {p : List Int} {st : Int} (h : ¬ endV M p st < 0) : ∃ (e : List Int) (s t n' P' Q' : Nat), progK p = some e ∧ certB M = true ∧ st = s ∧ endV M p st = t ∧ M.n = n' ∧ M.p = P' ∧ M.q = Q' ∧ MoOk n' P' Q' M.acts ∧ s < n' ∧ t < n' ∧ (rowsV M e).length = n' ∧ (rowsV M e).getD s 0 = ((2 ^ t : Nat) : Int) ∧ e.length ≤ 40 ∧
    ∃ ys l, p = ys ++ [l] ∧ (l < 200 ∨ ∃ c : Nat, l = 200 + (c : Int) ∧ c < 16 ∧ c.testBit (atomN M t) = false) := by
  cases hk : progK p with
  | none => rw [endV_no1 hk] at h; omega
  | some e =>
    cases hc : certB M with
    | false => rw [endV_no2 hc] at h; omega
    | true =>
      cases hi : inB st 0 (M.n - 1) with
      | false => rw [endV_no3 hi] at h; omega
      | true =>
        simp only [inB, Bool.and_eq_true, decide_eq_true_eq] at hi
        obtain ⟨s, rfl⟩ : ∃ s : Nat, st = s := ⟨st.toNat, by omega⟩
        have hm := certB_mod hc
        obtain ⟨n', P', Q', e1, e2, e3, hok⟩ := modB_open hm
        have hs : s < M.n.toNat := by omega
        obtain ⟨T, h1, h2, h3, h4, h5, h6, h7, h8⟩ := progK_open hk
        obtain ⟨r1, r2, r3, x, r4⟩ := end_row hk hc hs
        have hev := endV_some hk hc hs
        have hlen : (rowsV M e).length = n' := by rw [rowsV, hm, h7, e1]; simp [rowsR_length]
        rcases r3 with ⟨g1, g2⟩ | ⟨g1, g2, g3⟩
        · rw [hev, if_pos g1] at h; omega
        · have hx0 : ¬ ((rowsV M e).getD s 0).toNat = 0 := fun hh => by rw [hh] at g1; cases g1
          rw [if_neg hx0] at hev
          refine ⟨e, s, _, n', P', Q', rfl, rfl, rfl, hev, e1, e2, e3, hok, by omega, by omega, hlen, ?_, by rw [h5, KT.post_length]; exact h4, ?_⟩
          · rw [r4, Int.toNat_natCast] at g1 ⊢
            rw [← (sole_tz g1).1]
          · obtain ⟨ys, l, w1, w2⟩ := last_word h1
            refine ⟨ys, l, by rw [h2]; exact w1, ?_⟩
            rcases w2 with w2 | ⟨c, a, rfl, w3, w4⟩
            · exact .inl w2
            · refine .inr ⟨c, w3, w4, ?_⟩
              rw [h6] at g3
              exact (machM_sure hc).loop h1 g3
theorem pow_wrapL : ∀ {k : Nat}, k < 5 → IntKind.i64.wrap (2 ^ k) = ((2 ^ k : Nat) : Int) := by decide +kernel

set_option maxRecDepth 100000 in
set_option maxHeartbeats 3200000 in
theorem law_FnProgEnds (v : Value) (bs : List Int) (w : World) (hx : SlB 0 w.heap.size w v bs) (hE : TabT w) :
    Calls Tryd.prog 7 #[v] w fun e w' => e = .returned (.bool true) ∧ Below w.heap.size w w' := by
  have HX := Lib.hid hx
  obtain ⟨⟨a, cap, rfl, hcap, hcm, _⟩, _⟩ := hx
  unfold maxLen at hcm
  by_cases hm : bs.length ≤ 1048576
  · have HE := Lib.hid hE
    clear hE
    go_enter Tryd.func7, Tryd.ntmps7
    go_wp2_with fail
    refine (DrawProgEnds_any _ bs _ HX.out).mono ?_
    rintro e w1 ⟨⟨n', p, q, acts⟩, va, vc, ps, st, rfl, hM, hC, hcl, hb⟩
    have hs1 := hb.size
    obtain ⟨hA, ha3, ha5, hn1, hn5⟩ := hM
    simp only at hA ha3 ha5 hn1 hn5
    obtain ⟨sa, sc, rfl, _, _⟩ := hA.shape
    obtain ⟨ca, cc, rfl, hcc, hcc2⟩ := hC.shape
    unfold maxLen at hcc2
    obtain ⟨w2, hw2⟩ : ∃ w2, w2 = w1.alloc (.cells #[.int .i64 n', .int .i64 p, .int .i64 q, .slice sa acts.length sc] 25) := ⟨_, rfl⟩
    obtain ⟨hb2, K_, hs2⟩ := box_facts2 hw2
    obtain ⟨gM, hgM⟩ : ∃ gM, gM = w1.heap.size := ⟨_, rfl⟩
    have HA := Lib.hid (hA.below hb2 (Nat.le_refl _))
    have HC := Lib.hid (hC.below hb2 (Nat.le_refl _))
    have HB := Lib.hid (hb.trans (hb2.mono hs1))
    have HM5 : Hid (∀ x ∈ acts, x.length ≤ 1048576) := Lib.hid fun x hx => by have := ha5 x hx; omega
    rw [← hgM] at K_
    have KM := Lib.hid K_
    have hgl := K_.lt
    have HW := Lib.hid hw2
    have HGM := Lib.hid hgM
    have hha : w1.heap.size ≤ w2.heap.size := by omega
    have hTe := HE.out.below HB.out
    have HI := Lib.hid (impl_ProgEnds _ _ _ _ ⟨n', p, q, acts⟩ _ _ ps st w2 hTe HA.out hha (by simp only; omega) HM5.out HC.out hha (by omega))
    have HOp := Lib.hid (@ends_open ⟨n', p, q, acts⟩ ps st)
    have HNg : Hid (endV ⟨n', p, q, acts⟩ ps st < 0 → endV ⟨n', p, q, acts⟩ ps st = -1) := Lib.hid (fun h => by
      unfold endV at h ⊢
      split at h
      · rename_i hc
        rw [if_pos hc]
        split at h
        · rename_i hc2; rw [if_pos hc2]
        · omega
      · rename_i hc; rw [if_neg hc])
    have HSp : Hid (∀ w', SlLL w.heap.size w1.heap.size w' (.slice sa acts.length sc) acts → SlI w.heap.size w1.heap.size w' (.slice ca ps.length cc) ps → w1.heap.size ≤ w'.heap.size → Calls Tryd.prog 20 #[aggMo ⟨n', p, q, acts⟩ (.slice sa acts.length sc), .slice ca ps.length cc, .int .i64 st] w' fun e w'' => e = .returned (.int .i64 (endV ⟨n', p, q, acts⟩ ps st)) ∧ Below w'.heap.size w' w'') := Lib.hid (fun w' h1 h2 h3 => spec_ProgEnds _ _ _ _ ⟨n', p, q, acts⟩ _ _ ps st w' h1 h3 (by simp only; omega) HM5.out h2 h3 (by omega))
    obtain ⟨E, hEV⟩ : ∃ E, E = endV ⟨n', p, q, acts⟩ ps st := ⟨_, rfl⟩
    rw [← hEV] at HI HOp HNg HSp
    have d4 : (E != E) = false := by simp
    clear hb hA hC hb2 K_ hw2 hgM hTe hEV ha5
    have k0 := KM.out.cell 0
    have k1 := KM.out.cell 1
    have k2 := KM.out.cell 2
    have k3 := KM.out.cell 3
    go_upto_region 4 with (rw [← HW.out])
    try rw [← HW.out]
    rw [← HGM.out]
    clear HW HGM
    go_wp2_with fail
    refine HI.out.mono ?_
    rintro e w3 ⟨rfl, hb⟩
    clear k0 k1 k2 k3
    have hs3 := hb.size
    replace KM := Lib.hid (KM.out.below hb hgl)
    replace HA := Lib.hid (HA.out.below hb hha)
    replace HC := Lib.hid (HC.out.below hb hha)
    replace HB := Lib.hid (HB.out.trans (hb.mono (by omega)))
    have hgl3 := KM.out.lt
    have k0 := KM.out.cell 0
    have k1 := KM.out.cell 1
    have k2 := KM.out.cell 2
    have k3 := KM.out.cell 3
    clear hb
    go_wp2_with fail
    refine (HSp.out w3 HA.out HC.out (by omega)).mono ?_
    rintro e w4 ⟨rfl, hb⟩
    clear k0 k1 k2 k3 HSp
    have hs4 := hb.size
    replace KM := Lib.hid (KM.out.below hb hgl3)
    replace HA := Lib.hid (HA.out.below hb (by omega))
    replace HC := Lib.hid (HC.out.below hb (by omega))
    replace HB := Lib.hid (HB.out.trans (hb.mono (by omega)))
    have hgl4 := KM.out.lt
    clear hb
    by_cases hneg : E < 0
    · obtain rfl := HNg.out hneg
      clear HOp HNg hneg
      go_wp2_with fail
      refine (alive_any _).mono ?_
      rintro e w5 ⟨rfl, rfl⟩
      go_wp2
      go_ret
      exact ⟨rfl, HB.out⟩
    · obtain ⟨e, s, t, n, P, Q, hk, hce, rfl, rfl, rfl, rfl, rfl, hok, hsn, htn, hrl, hrg, hel, ys, l, hps, hlast⟩ := HOp.out (by first | exact hneg | omega)
      have HOK := Lib.hid hok
      have HPS := Lib.hid hps
      have HKC := Lib.hid (impl_ProgKat _ _ _ ps w4 HC.out (by omega) (by omega))
      rw [hk] at HKC
      have HRO := Lib.hid (fun (w' : World) (ve : Value) (le he : Nat) (h1 : SlLL w.heap.size w1.heap.size w' (.slice sa acts.length sc) acts) (h2 : w1.heap.size ≤ w'.heap.size) (h3 : SlI le he w' ve e) (h4 : he ≤ w'.heap.size) => impl_RowsOf _ _ le he (⟨(n : Int), (P : Int), (Q : Int), acts⟩ : Mo) _ ve e w' h1 h2 (by simp only; omega) HM5.out h3 h4 (by omega))
      obtain ⟨rows, hrows⟩ : ∃ rows, rows = rowsV (⟨(n : Int), (P : Int), (Q : Int), acts⟩ : Mo) e := ⟨_, rfl⟩
      rw [← hrows] at HRO hrl hrg
      have HRL := Lib.hid hrl
      have HRG := Lib.hid hrg
      have hpl5 : 2 ^ t ≤ 16 := Nat.pow_le_pow_right (n := 2) (by omega) (show t ≤ 4 by omega)
      have pw := pow_wrap (k := t) (by omega)
      have pwI := pow_wrapL (k := t) (by omega)
      obtain ⟨K, hK⟩ : ∃ K, K = 2 ^ t := ⟨_, rfl⟩
      rw [← hK] at pw pwI HRG hpl5
      have hpl : ps.length = ys.length + 1 := by rw [hps]; simp
      obtain ⟨m, hme⟩ : ∃ m, m = ys.length := ⟨_, rfl⟩
      have HPL := Lib.hid hpl
      have hml1 : m + 1 ≤ ps.length := by omega
      have hml2 : ps.length ≤ m + 1 := by omega
      have HLC : Hid (∀ w' : World, SlI w.heap.size w1.heap.size w' (.slice ca ps.length cc) ps → ∃ b off, ca = some ⟨b, off, none⟩ ∧ w'.cell? ⟨b, off + m, none⟩ = some (.int .i64 l)) := Lib.hid fun w' h => by
        rw [HPL.out, HPS.out] at h
        obtain ⟨b, off, cap, e1, _, _, hc⟩ := last_cell (xs := ys) (s := l) h
        injection e1 with e1
        exact ⟨b, off, e1, by rw [hme]; exact hc⟩
      have HAT : Hid (∀ w', SlLL w.heap.size w1.heap.size w' (.slice sa acts.length sc) acts → w1.heap.size ≤ w'.heap.size → Calls Tryd.prog 34 #[aggMo (⟨(n : Int), (P : Int), (Q : Int), acts⟩ : Mo) (.slice sa acts.length sc), .int .i64 t] w' fun e w'' => e = .returned (.int .i64 ((atomN (⟨(n : Int), (P : Int), (Q : Int), acts⟩ : Mo) t : Nat) : Int)) ∧ Below w'.heap.size w' w'') := Lib.hid fun w' h1 h2 => impl_AtomOf _ _ n P Q t acts _ w' HOK.out htn h1 h2 (by omega) HM5.out
      have hat4 := atomN_lt (⟨(n : Int), (P : Int), (Q : Int), acts⟩ : Mo) t
      have HLS := Lib.hid hlast
      obtain ⟨A, hAA⟩ : ∃ A, A = atomN (⟨(n : Int), (P : Int), (Q : Int), acts⟩ : Mo) t := ⟨_, rfl⟩
      rw [← hAA] at HAT hat4 HLS
      have hm100 : m ≤ 100 := by omega
      clear HOp HNg hk hce hok hrows hrl hrg hK hpl hps hlast hme hAA hneg HI d4 HPL HPS
      go_wp2_with fail
      refine HKC.out.mono ?_
      rintro e5 w5 h
      obtain ⟨xa, xc, rfl, ho5, hb5⟩ := h.some rfl
      have hs5 := hb5.size
      replace KM := Lib.hid (KM.out.below hb5 hgl4)
      replace HA := Lib.hid (HA.out.below hb5 (by omega))
      replace HC := Lib.hid (HC.out.below hb5 (by omega))
      replace HB := Lib.hid (HB.out.trans (hb5.mono (by omega)))
      have hgl5 := KM.out.lt
      have HRC := Lib.hid (HRO.out w5 _ _ _ HA.out (by omega) ho5.sl (Nat.le_refl _))
      have k0 := KM.out.cell 0
      have k1 := KM.out.cell 1
      have k2 := KM.out.cell 2
      have k3 := KM.out.cell 3
      clear h ho5 hb5 HKC HRO
      go_wp2_with fail
      refine HRC.out.mono ?_
      rintro e6 w6 ⟨v6, rfl, o6, hb6⟩
      clear k0 k1 k2 k3
      have hs6 := hb6.size
      obtain ⟨ra, rc, rfl, _, hrc⟩ := o6.sl.shape
      unfold maxLen at hrc
      obtain ⟨b, off, rfl, hbb1, hbb2, _, hcell⟩ := o6.sl.get s (by rw [HRL.out]; exact hsn)
      have hg : rows[s]'(by rw [HRL.out]; exact hsn) = (K : Int) := by
        have h := HRG.out
        rwa [List.getD_eq_getElem?_getD, List.getElem?_eq_getElem (by rw [HRL.out]; exact hsn), Option.getD_some] at h
      replace hcell := hcell.trans (congrArg (fun z => some (Value.int .i64 z)) hg)
      replace KM := Lib.hid (KM.out.below hb6 hgl5)
      replace HA := Lib.hid (HA.out.below hb6 (by omega))
      replace HC := Lib.hid (HC.out.below hb6 (by omega))
      replace HB := Lib.hid (HB.out.trans (hb6.mono (by omega)))
      have hgl6 := KM.out.lt
      obtain ⟨b', off', rfl, hlc⟩ := HLC.out w6 HC.out
      have heq : ((rows.length : Int) == (n : Int)) = true := by rw [HRL.out]; simp
      have hsr : (s : Int) < (rows.length : Int) := by rw [HRL.out]; omega
      have hKK : ((K : Int) == (K : Int)) = true := by simp
      have k0 := KM.out.drew.cell 0
      have k1 := KM.out.drew.cell 1
      have k2 := KM.out.drew.cell 2
      have k3 := KM.out.drew.cell 3
      have hcd : w6.drew.cell? ⟨b, off + s, none⟩ = some (.int .i64 K) := hcell
      have hdz : w6.drew.heap.size = w6.heap.size := rfl
      have HBD : Hid (Below w6.heap.size w6 w6.drew) := Lib.hid (Below.drew (Below.refl _ _))
      have HCR := Lib.hid hcd
      have hpi : ((ps.length : Int) - 1) = (m : Int) := by omega
      have hmi : (m : Int) < (ps.length : Int) := by omega
      have hbl : b < w6.heap.size := hbb2
      clear o6 hb6 HRC hg hcell
      rcases HLS.out with hl | ⟨c, hl, hc16, hcb⟩
      · have hld : decide (l < 200) = true := decide_eq_true hl
        clear HLS
        go_upto_region 12 with fail
        conv in (Oper.mk (some 71) _ _ _ _ _) => change id _
        first
          | (go_region_held_law (fun w' => w'.cell? ⟨gM, 0, none⟩ = some (.int .i64 (n : Int)) ∧ w'.cell? ⟨b, off + s, none⟩ = some (.int .i64 (K : Int))) (first | with_reducible assumption | go_keep) (fail))
          | fail
        all_goals (
          go_wp2
          go_ret
          exact ⟨rfl, Below.drew HB.out⟩)
      · have hld : decide (l < 200) = false := decide_eq_false (by omega)
        have hcs : IntKind.i64.wrap (l - 200) = c := (IntWalk.i64_in _ (by omega)).trans (by omega)
        have HTH := Lib.hid fun w' => impl_TestHolds c A w' hc16 hat4
        rw [hcb] at HTH
        clear HLS hcb hl
        go_upto_region 12 with fail
        go_region_held3 (fun w' => w'.cell? ⟨gM, 0, none⟩ = some (.int .i64 (n : Int)) ∧ w'.cell? ⟨gM, 1, none⟩ = some (.int .i64 (P : Int)) ∧ w'.cell? ⟨gM, 2, none⟩ = some (.int .i64 (Q : Int)) ∧ w'.cell? ⟨gM, 3, none⟩ = some (.slice sa acts.length sc) ∧ w'.cell? ⟨b, off + s, none⟩ = some (.int .i64 (K : Int))) (first | with_reducible assumption | go_keep) (first
          | (go_at_call 34; refine (HAT.out w6.drew (HA.out.below HBD.out (by omega)) (by omega)).mono ?_; rintro e7 w7 ⟨rfl, hb7_⟩; (have hb7 : Below w6.heap.size w6 w7 := HBD.out.trans (hb7_.mono (Nat.le_refl _))); (have K7 := KM.out.below hb7 hgl6); (have m0 := K7.cell 0); (have m1 := K7.cell 1); (have m2 := K7.cell 2); (have m3 := K7.cell 3); (have m4 : w7.cell? ⟨b, off + s, none⟩ = some (.int .i64 K) := (hb7_.cell (p := ⟨b, off + s, none⟩) hbl).trans HCR.out); (have HB7 := Lib.hid (HB.out.trans (hb7.mono (by omega)))); clear K7 hb7 hb7_)
          | (go_at_call 33; refine (HTH.out _).mono ?_; rintro e8 _ ⟨rfl, rfl⟩))
        go_wp2
        go_ret
        exact ⟨rfl, HB7.out⟩
  · go_enter Tryd.func7, Tryd.ntmps7
    go_wp2
    go_ret
    exact ⟨rfl, Below.refl _ _⟩
end Go.Proofs.YtoondakdjhhehaaDoor
